/- promo.Right, for all promos: the head, what is plain, and what its kind asks. -/
import Derived.Test.YtdmeepjefccpgaaProg
import Derived.Below
import Derived.Deep.Draws
import Derived.Deep.AppendLies
import Derived.Maps.AppendAt
import Derived.OwnWalk
import Derived.Laws.BytesArg
import Derived.Laws.MakeOwn
import Derived.Laws.OwnMore
import Derived.Deep.OwnRows
import Derived.Tactics
import Derived.Lib.ConvBytes
import Derived.Laws.Slices
import Derived.WalkKit
import Derived.KernelRfl
import Derived.RowKit3
import Derived.Deep.LoopGhost
import Derived.Deep.QuietTactic
import Derived.BigQuiet
import Derived.WideLaws
import Derived.Deep.DeepCutAuto
import Derived.Deep.CutBlock
import Derived.Deep.RegionHeld3
import Derived.Laws.Rows
import Derived.Lib.AppendStr
import Derived.ArgAppend
import Derived.Laws.IdiomCopy
import Derived.OrdersHeld
import Derived.Laws.BitsLemmas
import Derived.RowKit
import Derived.BigRegion
import Derived.Outline
import Derived.RegionTactic
import Derived.StillTailTactics
import Derived.Deep.RegionLaw
import Derived.Test.YtdmeepjefccpgaaVHPlain
import Derived.Test.YtdmeepjefccpgaaVPromoP
import Derived.Laws.EntriesVeiled
import Derived.Test.YtdmeepjefccpgaaVRwAb
import Derived.Test.YtdmeepjefccpgaaVHFun
set_option linter.unusedVariables false
set_option linter.unusedSimpArgs false
namespace Go.Proofs.Ytdmeepjefccpgaa.Rw
open Go Go.RowKit Go.Proofs.YtdmeepjefccpgaaW.PrintWords Go.Proofs.YtdmeepjefccpgaaW.PrintLast Go.Proofs.YtdmeepjefccpgaaW.PrintMore Go.Proofs.Ytdmeepjefccpgaa.PP
def kindOk (k : Int) (a0_9 a0_10 a0_11 a0_12 : Int) (l0_13 : List (S65)) (l0_14 : List (S67)) : Bool :=
  if k = 1 then rateOk a0_9 else if k = 2 then amountOk a0_10 else if k = 3 then buyGetOk a0_9 a0_11 a0_12 else if k = 4 then bundleOk a0_10 l0_13 else if k = 5 then tiersOk l0_14 else if k = 6 then tiersOk l0_14 else rateOk a0_9
def plainOk (k : Int) (a0_5 : Bool) (n6 n7 : Nat) (a0_9 a0_10 a0_11 a0_12 : Int) (n13 n14 : Nat) : Bool :=
  ((((((plain_1 k a0_9 && plain_2 k a0_10) && plain_3 k a0_11 a0_12) && plain_4 k n13) && plain_5 k n14) && plain_6 k n6 n7) && plain_7 k a0_5)
def rightOk (a0_0 : ByteArray) (k : Int) (a0_2 : Int) (a0_3 : ByteArray) (a0_4 : ByteArray) (a0_5 : Bool) (l0_6 : List ByteArray) (l0_7 : List ByteArray) (a0_8 : Int) (a0_9 : Int) (a0_10 : Int) (a0_11 : Int) (a0_12 : Int) (l0_13 : List (S65)) (l0_14 : List (S67)) : Bool :=
  decide (1 ≤ k) && (decide (k < 8) && (headOk a0_0 a0_2 a0_3 a0_4 l0_6 l0_7 a0_8 && (plainOk k a0_5 l0_6.length l0_7.length a0_9 a0_10 a0_11 a0_12 l0_13.length l0_14.length && kindOk k a0_9 a0_10 a0_11 a0_12 l0_13 l0_14)))
/-- The lists that a promo's part holds are as long as lists may be. -/
theorem fitParts {w : World} {A : Option Addr} {l : List (S65)} (h : Kd.C k65 w A l.length l) : ∀ i, i < l.length → fitPart (rd_T65 l (i : Int)) := by
  intro i hi
  obtain ⟨ad, c, e, _, hK, _⟩ := Kd.C_get h z65 (i : Int) (by omega) (by omega)
  obtain ⟨A0, c0, A1, c1, _, _, g0, _, g1⟩ := k65_open hK
  exact ⟨g0.2.1, g1.2.1⟩
theorem bel_drew (w : World) : Below w.heap.size w w.drew := ⟨rfl, rfl, rfl, Nat.le_refl _, fun _ _ => rfl⟩
theorem al_new (w : World) (o : Obj) : (w.alloc o).heap[w.heap.size]? = some o := by show (w.heap.push o)[w.heap.size]? = _; simp
theorem al_old (w : World) (o : Obj) (i : Nat) (h : i < w.heap.size) : (w.alloc o).heap[i]? = w.heap[i]? := Below.heap_alloc w o i h
theorem al_size (w : World) (o : Obj) : (w.alloc o).heap.size = w.heap.size + 1 := by show (w.heap.push o).size = _; simp
theorem cells_ {w0 w1 : World} {g : Nat} {cs : Array Value} {t : TypeId} (h : w0.heap[g]? = some (.cells cs t (0, 0))) (hb : Below w0.heap.size w0 w1) (i : Nat) (v : Value) (hv : cs[i]? = some v) : w1.cell? ⟨g, i, none⟩ = some v := by
  have h1 : w0.cell? ⟨g, i, none⟩ = some v := (blk_cell h i).trans hv
  exact (hb.cell (World.block_lt_of_cell? w0 _ h1)).trans h1
theorem head_at (a0_0 : ByteArray) (k : Int) (a0_2 : Int) (a0_3 : ByteArray) (a0_4 : ByteArray) (a0_5 : Bool) (A0_6 : Option Addr) (c0_6 : Nat) (l0_6 : List ByteArray) (A0_7 : Option Addr) (c0_7 : Nat) (l0_7 : List ByteArray) (a0_8 : Int) (a0_9 : Int) (a0_10 : Int) (a0_11 : Int) (a0_12 : Int) (A0_13 : Option Addr) (c0_13 : Nat) (l0_13 : List (S65)) (A0_14 : Option Addr) (c0_14 : Nat) (l0_14 : List (S67)) (w : World) (hr0_6 : Kd.C Kd.string w A0_6 l0_6.length l0_6) (hc0_6 : l0_6.length ≤ c0_6) (hr0_7 : Kd.C Kd.string w A0_7 l0_7.length l0_7) (hc0_7 : l0_7.length ≤ c0_7) (hr0_13 : Kd.C k65 w A0_13 l0_13.length l0_13) (hc0_13 : l0_13.length ≤ c0_13) (hr0_14 : Kd.C k67 w A0_14 l0_14.length l0_14) (hc0_14 : l0_14.length ≤ c0_14) :
    Calls Try.prog 70 #[.agg #[.string a0_0, .int .i64 k, .int .i64 a0_2, .string a0_3, .string a0_4, .bool a0_5, .slice A0_6 l0_6.length c0_6, .slice A0_7 l0_7.length c0_7, .int .i64 a0_8, .int .i64 a0_9, .int .i64 a0_10, .int .i64 a0_11, .int .i64 a0_12, .slice A0_13 l0_13.length c0_13, .slice A0_14 l0_14.length c0_14]] w fun e w' => e = .returned (.bool (headOk a0_0 a0_2 a0_3 a0_4 l0_6 l0_7 a0_8)) ∧ Below w.heap.size w w' := by
  obtain ⟨n, hn⟩ := Ev.rounds (head_f a0_0 k a0_2 a0_3 a0_4 a0_5 l0_6 l0_7 a0_8 a0_9 a0_10 a0_11 a0_12 l0_13 l0_14 (by have := hr0_6.2.1; omega) (by have := hr0_7.2.1; omega))
  exact promo_one_head.calls n a0_0 k a0_2 a0_3 a0_4 a0_5 A0_6 c0_6 l0_6 A0_7 c0_7 l0_7 a0_8 a0_9 a0_10 a0_11 a0_12 A0_13 c0_13 l0_13 A0_14 c0_14 l0_14 _ w hr0_6 hc0_6 hr0_7 hc0_7 hr0_13 hc0_13 hr0_14 hc0_14 hn
theorem plain_at (a0_0 : ByteArray) (k : Int) (a0_2 : Int) (a0_3 : ByteArray) (a0_4 : ByteArray) (a0_5 : Bool) (A0_6 : Option Addr) (c0_6 : Nat) (l0_6 : List ByteArray) (A0_7 : Option Addr) (c0_7 : Nat) (l0_7 : List ByteArray) (a0_8 : Int) (a0_9 : Int) (a0_10 : Int) (a0_11 : Int) (a0_12 : Int) (A0_13 : Option Addr) (c0_13 : Nat) (l0_13 : List (S65)) (A0_14 : Option Addr) (c0_14 : Nat) (l0_14 : List (S67)) (w : World) (hr0_6 : Kd.C Kd.string w A0_6 l0_6.length l0_6) (hc0_6 : l0_6.length ≤ c0_6) (hr0_7 : Kd.C Kd.string w A0_7 l0_7.length l0_7) (hc0_7 : l0_7.length ≤ c0_7) (hr0_13 : Kd.C k65 w A0_13 l0_13.length l0_13) (hc0_13 : l0_13.length ≤ c0_13) (hr0_14 : Kd.C k67 w A0_14 l0_14.length l0_14) (hc0_14 : l0_14.length ≤ c0_14) :
    Calls Try.prog 71 #[.agg #[.string a0_0, .int .i64 k, .int .i64 a0_2, .string a0_3, .string a0_4, .bool a0_5, .slice A0_6 l0_6.length c0_6, .slice A0_7 l0_7.length c0_7, .int .i64 a0_8, .int .i64 a0_9, .int .i64 a0_10, .int .i64 a0_11, .int .i64 a0_12, .slice A0_13 l0_13.length c0_13, .slice A0_14 l0_14.length c0_14]] w fun e w' => e = .returned (.bool (plainOk k a0_5 l0_6.length l0_7.length a0_9 a0_10 a0_11 a0_12 l0_13.length l0_14.length)) ∧ Below w.heap.size w w' := by
  exact promo_one_plain.calls a0_0 k a0_2 a0_3 a0_4 a0_5 A0_6 c0_6 l0_6 A0_7 c0_7 l0_7 a0_8 a0_9 a0_10 a0_11 a0_12 A0_13 c0_13 l0_13 A0_14 c0_14 l0_14 _ w rfl
theorem rate_at (a0_0 : ByteArray) (k : Int) (a0_2 : Int) (a0_3 : ByteArray) (a0_4 : ByteArray) (a0_5 : Bool) (A0_6 : Option Addr) (c0_6 : Nat) (l0_6 : List ByteArray) (A0_7 : Option Addr) (c0_7 : Nat) (l0_7 : List ByteArray) (a0_8 : Int) (a0_9 : Int) (a0_10 : Int) (a0_11 : Int) (a0_12 : Int) (A0_13 : Option Addr) (c0_13 : Nat) (l0_13 : List (S65)) (A0_14 : Option Addr) (c0_14 : Nat) (l0_14 : List (S67)) (w : World) (hr0_6 : Kd.C Kd.string w A0_6 l0_6.length l0_6) (hc0_6 : l0_6.length ≤ c0_6) (hr0_7 : Kd.C Kd.string w A0_7 l0_7.length l0_7) (hc0_7 : l0_7.length ≤ c0_7) (hr0_13 : Kd.C k65 w A0_13 l0_13.length l0_13) (hc0_13 : l0_13.length ≤ c0_13) (hr0_14 : Kd.C k67 w A0_14 l0_14.length l0_14) (hc0_14 : l0_14.length ≤ c0_14) :
    Calls Try.prog 65 #[.agg #[.string a0_0, .int .i64 k, .int .i64 a0_2, .string a0_3, .string a0_4, .bool a0_5, .slice A0_6 l0_6.length c0_6, .slice A0_7 l0_7.length c0_7, .int .i64 a0_8, .int .i64 a0_9, .int .i64 a0_10, .int .i64 a0_11, .int .i64 a0_12, .slice A0_13 l0_13.length c0_13, .slice A0_14 l0_14.length c0_14]] w fun e w' => e = .returned (.bool (rateOk a0_9)) ∧ Below w.heap.size w w' := by
  exact promo_one_rate.calls a0_0 k a0_2 a0_3 a0_4 a0_5 A0_6 c0_6 l0_6 A0_7 c0_7 l0_7 a0_8 a0_9 a0_10 a0_11 a0_12 A0_13 c0_13 l0_13 A0_14 c0_14 l0_14 _ w hr0_6 hc0_6 hr0_7 hc0_7 hr0_13 hc0_13 hr0_14 hc0_14 (buyGet_f a0_0 k a0_2 a0_3 a0_4 a0_5 l0_6 l0_7 a0_8 a0_9 a0_10 a0_11 a0_12 l0_13 l0_14).1
theorem amount_at (a0_0 : ByteArray) (k : Int) (a0_2 : Int) (a0_3 : ByteArray) (a0_4 : ByteArray) (a0_5 : Bool) (A0_6 : Option Addr) (c0_6 : Nat) (l0_6 : List ByteArray) (A0_7 : Option Addr) (c0_7 : Nat) (l0_7 : List ByteArray) (a0_8 : Int) (a0_9 : Int) (a0_10 : Int) (a0_11 : Int) (a0_12 : Int) (A0_13 : Option Addr) (c0_13 : Nat) (l0_13 : List (S65)) (A0_14 : Option Addr) (c0_14 : Nat) (l0_14 : List (S67)) (w : World) (hr0_6 : Kd.C Kd.string w A0_6 l0_6.length l0_6) (hc0_6 : l0_6.length ≤ c0_6) (hr0_7 : Kd.C Kd.string w A0_7 l0_7.length l0_7) (hc0_7 : l0_7.length ≤ c0_7) (hr0_13 : Kd.C k65 w A0_13 l0_13.length l0_13) (hc0_13 : l0_13.length ≤ c0_13) (hr0_14 : Kd.C k67 w A0_14 l0_14.length l0_14) (hc0_14 : l0_14.length ≤ c0_14) :
    Calls Try.prog 66 #[.agg #[.string a0_0, .int .i64 k, .int .i64 a0_2, .string a0_3, .string a0_4, .bool a0_5, .slice A0_6 l0_6.length c0_6, .slice A0_7 l0_7.length c0_7, .int .i64 a0_8, .int .i64 a0_9, .int .i64 a0_10, .int .i64 a0_11, .int .i64 a0_12, .slice A0_13 l0_13.length c0_13, .slice A0_14 l0_14.length c0_14]] w fun e w' => e = .returned (.bool (amountOk a0_10)) ∧ Below w.heap.size w w' := by
  exact promo_one_amount.calls a0_0 k a0_2 a0_3 a0_4 a0_5 A0_6 c0_6 l0_6 A0_7 c0_7 l0_7 a0_8 a0_9 a0_10 a0_11 a0_12 A0_13 c0_13 l0_13 A0_14 c0_14 l0_14 _ w hr0_6 hc0_6 hr0_7 hc0_7 hr0_13 hc0_13 hr0_14 hc0_14 (buyGet_f a0_0 k a0_2 a0_3 a0_4 a0_5 l0_6 l0_7 a0_8 a0_9 a0_10 a0_11 a0_12 l0_13 l0_14).2.1
theorem buyGet_at (a0_0 : ByteArray) (k : Int) (a0_2 : Int) (a0_3 : ByteArray) (a0_4 : ByteArray) (a0_5 : Bool) (A0_6 : Option Addr) (c0_6 : Nat) (l0_6 : List ByteArray) (A0_7 : Option Addr) (c0_7 : Nat) (l0_7 : List ByteArray) (a0_8 : Int) (a0_9 : Int) (a0_10 : Int) (a0_11 : Int) (a0_12 : Int) (A0_13 : Option Addr) (c0_13 : Nat) (l0_13 : List (S65)) (A0_14 : Option Addr) (c0_14 : Nat) (l0_14 : List (S67)) (w : World) (hr0_6 : Kd.C Kd.string w A0_6 l0_6.length l0_6) (hc0_6 : l0_6.length ≤ c0_6) (hr0_7 : Kd.C Kd.string w A0_7 l0_7.length l0_7) (hc0_7 : l0_7.length ≤ c0_7) (hr0_13 : Kd.C k65 w A0_13 l0_13.length l0_13) (hc0_13 : l0_13.length ≤ c0_13) (hr0_14 : Kd.C k67 w A0_14 l0_14.length l0_14) (hc0_14 : l0_14.length ≤ c0_14) :
    Calls Try.prog 67 #[.agg #[.string a0_0, .int .i64 k, .int .i64 a0_2, .string a0_3, .string a0_4, .bool a0_5, .slice A0_6 l0_6.length c0_6, .slice A0_7 l0_7.length c0_7, .int .i64 a0_8, .int .i64 a0_9, .int .i64 a0_10, .int .i64 a0_11, .int .i64 a0_12, .slice A0_13 l0_13.length c0_13, .slice A0_14 l0_14.length c0_14]] w fun e w' => e = .returned (.bool (buyGetOk a0_9 a0_11 a0_12)) ∧ Below w.heap.size w w' := by
  exact promo_one_buyGet.calls a0_0 k a0_2 a0_3 a0_4 a0_5 A0_6 c0_6 l0_6 A0_7 c0_7 l0_7 a0_8 a0_9 a0_10 a0_11 a0_12 A0_13 c0_13 l0_13 A0_14 c0_14 l0_14 _ w hr0_6 hc0_6 hr0_7 hc0_7 hr0_13 hc0_13 hr0_14 hc0_14 (buyGet_f a0_0 k a0_2 a0_3 a0_4 a0_5 l0_6 l0_7 a0_8 a0_9 a0_10 a0_11 a0_12 l0_13 l0_14).2.2
theorem bundle_at (a0_0 : ByteArray) (k : Int) (a0_2 : Int) (a0_3 : ByteArray) (a0_4 : ByteArray) (a0_5 : Bool) (A0_6 : Option Addr) (c0_6 : Nat) (l0_6 : List ByteArray) (A0_7 : Option Addr) (c0_7 : Nat) (l0_7 : List ByteArray) (a0_8 : Int) (a0_9 : Int) (a0_10 : Int) (a0_11 : Int) (a0_12 : Int) (A0_13 : Option Addr) (c0_13 : Nat) (l0_13 : List (S65)) (A0_14 : Option Addr) (c0_14 : Nat) (l0_14 : List (S67)) (w : World) (hr0_6 : Kd.C Kd.string w A0_6 l0_6.length l0_6) (hc0_6 : l0_6.length ≤ c0_6) (hr0_7 : Kd.C Kd.string w A0_7 l0_7.length l0_7) (hc0_7 : l0_7.length ≤ c0_7) (hr0_13 : Kd.C k65 w A0_13 l0_13.length l0_13) (hc0_13 : l0_13.length ≤ c0_13) (hr0_14 : Kd.C k67 w A0_14 l0_14.length l0_14) (hc0_14 : l0_14.length ≤ c0_14) :
    Calls Try.prog 68 #[.agg #[.string a0_0, .int .i64 k, .int .i64 a0_2, .string a0_3, .string a0_4, .bool a0_5, .slice A0_6 l0_6.length c0_6, .slice A0_7 l0_7.length c0_7, .int .i64 a0_8, .int .i64 a0_9, .int .i64 a0_10, .int .i64 a0_11, .int .i64 a0_12, .slice A0_13 l0_13.length c0_13, .slice A0_14 l0_14.length c0_14]] w fun e w' => e = .returned (.bool (bundleOk a0_10 l0_13)) ∧ Below w.heap.size w w' := by
  obtain ⟨n, hn⟩ := Ev.rounds (bundle_f a0_0 k a0_2 a0_3 a0_4 a0_5 l0_6 l0_7 a0_8 a0_9 a0_10 a0_11 a0_12 l0_13 l0_14 (fitParts hr0_13))
  exact promo_one_bundle.calls n a0_0 k a0_2 a0_3 a0_4 a0_5 A0_6 c0_6 l0_6 A0_7 c0_7 l0_7 a0_8 a0_9 a0_10 a0_11 a0_12 A0_13 c0_13 l0_13 A0_14 c0_14 l0_14 _ w hr0_6 hc0_6 hr0_7 hc0_7 hr0_13 hc0_13 hr0_14 hc0_14 hn
theorem tiers_at (a0_0 : ByteArray) (k : Int) (a0_2 : Int) (a0_3 : ByteArray) (a0_4 : ByteArray) (a0_5 : Bool) (A0_6 : Option Addr) (c0_6 : Nat) (l0_6 : List ByteArray) (A0_7 : Option Addr) (c0_7 : Nat) (l0_7 : List ByteArray) (a0_8 : Int) (a0_9 : Int) (a0_10 : Int) (a0_11 : Int) (a0_12 : Int) (A0_13 : Option Addr) (c0_13 : Nat) (l0_13 : List (S65)) (A0_14 : Option Addr) (c0_14 : Nat) (l0_14 : List (S67)) (w : World) (hr0_6 : Kd.C Kd.string w A0_6 l0_6.length l0_6) (hc0_6 : l0_6.length ≤ c0_6) (hr0_7 : Kd.C Kd.string w A0_7 l0_7.length l0_7) (hc0_7 : l0_7.length ≤ c0_7) (hr0_13 : Kd.C k65 w A0_13 l0_13.length l0_13) (hc0_13 : l0_13.length ≤ c0_13) (hr0_14 : Kd.C k67 w A0_14 l0_14.length l0_14) (hc0_14 : l0_14.length ≤ c0_14) :
    Calls Try.prog 69 #[.agg #[.string a0_0, .int .i64 k, .int .i64 a0_2, .string a0_3, .string a0_4, .bool a0_5, .slice A0_6 l0_6.length c0_6, .slice A0_7 l0_7.length c0_7, .int .i64 a0_8, .int .i64 a0_9, .int .i64 a0_10, .int .i64 a0_11, .int .i64 a0_12, .slice A0_13 l0_13.length c0_13, .slice A0_14 l0_14.length c0_14]] w fun e w' => e = .returned (.bool (tiersOk l0_14)) ∧ Below w.heap.size w w' := by
  obtain ⟨n, hn⟩ := Ev.rounds (tiers_f a0_0 k a0_2 a0_3 a0_4 a0_5 l0_6 l0_7 a0_8 a0_9 a0_10 a0_11 a0_12 l0_13 l0_14)
  exact promo_one_tiers.calls n a0_0 k a0_2 a0_3 a0_4 a0_5 A0_6 c0_6 l0_6 A0_7 c0_7 l0_7 a0_8 a0_9 a0_10 a0_11 a0_12 A0_13 c0_13 l0_13 A0_14 c0_14 l0_14 _ w hr0_6 hc0_6 hr0_7 hc0_7 hr0_13 hc0_13 hr0_14 hc0_14 hn
set_option maxRecDepth 100000 in
set_option maxHeartbeats 16000000 in
theorem right_walk (a0_0 : ByteArray) (k : Int) (a0_2 : Int) (a0_3 : ByteArray) (a0_4 : ByteArray) (a0_5 : Bool) (A0_6 : Option Addr) (c0_6 : Nat) (l0_6 : List ByteArray) (A0_7 : Option Addr) (c0_7 : Nat) (l0_7 : List ByteArray) (a0_8 : Int) (a0_9 : Int) (a0_10 : Int) (a0_11 : Int) (a0_12 : Int) (A0_13 : Option Addr) (c0_13 : Nat) (l0_13 : List (S65)) (A0_14 : Option Addr) (c0_14 : Nat) (l0_14 : List (S67)) (w : World) (hr0_6 : Kd.C Kd.string w A0_6 l0_6.length l0_6) (hc0_6 : l0_6.length ≤ c0_6) (hr0_7 : Kd.C Kd.string w A0_7 l0_7.length l0_7) (hc0_7 : l0_7.length ≤ c0_7) (hr0_13 : Kd.C k65 w A0_13 l0_13.length l0_13) (hc0_13 : l0_13.length ≤ c0_13) (hr0_14 : Kd.C k67 w A0_14 l0_14.length l0_14) (hc0_14 : l0_14.length ≤ c0_14) :
    Calls Try.prog 30 #[.agg #[.string a0_0, .int .i64 k, .int .i64 a0_2, .string a0_3, .string a0_4, .bool a0_5, .slice A0_6 l0_6.length c0_6, .slice A0_7 l0_7.length c0_7, .int .i64 a0_8, .int .i64 a0_9, .int .i64 a0_10, .int .i64 a0_11, .int .i64 a0_12, .slice A0_13 l0_13.length c0_13, .slice A0_14 l0_14.length c0_14]] w fun e w' => e = .returned (.bool (rightOk a0_0 k a0_2 a0_3 a0_4 a0_5 l0_6 l0_7 a0_8 a0_9 a0_10 a0_11 a0_12 l0_13 l0_14)) ∧ Below w.heap.size w w' := by
  have HR6 := Aside0.mk hr0_6
  have HC6 := Aside0.mk hc0_6
  have HR7 := Aside0.mk hr0_7
  have HC7 := Aside0.mk hc0_7
  have HR13 := Aside0.mk hr0_13
  have HC13 := Aside0.mk hc0_13
  have HR14 := Aside0.mk hr0_14
  have HC14 := Aside0.mk hc0_14
  clear hr0_6 hc0_6 hr0_7 hc0_7 hr0_13 hc0_13 hr0_14 hc0_14
  obtain ⟨BO, hBO⟩ : ∃ b, rightOk a0_0 k a0_2 a0_3 a0_4 a0_5 l0_6 l0_7 a0_8 a0_9 a0_10 a0_11 a0_12 l0_13 l0_14 = b := ⟨_, rfl⟩
  obtain ⟨BH, hBH⟩ : ∃ b, headOk a0_0 a0_2 a0_3 a0_4 l0_6 l0_7 a0_8 = b := ⟨_, rfl⟩
  obtain ⟨BP, hBP⟩ : ∃ b, plainOk k a0_5 l0_6.length l0_7.length a0_9 a0_10 a0_11 a0_12 l0_13.length l0_14.length = b := ⟨_, rfl⟩
  have HRO : Aside0 (BO = (decide (1 ≤ k) && (decide (k < 8) && (BH && (BP && kindOk k a0_9 a0_10 a0_11 a0_12 l0_13 l0_14))))) := ⟨by rw [← hBO, ← hBH, ← hBP]; rfl⟩
  rw [hBO]
  have HBH := Aside0.mk hBH
  have HBP := Aside0.mk hBP
  clear hBO hBH hBP
  go_enter Try.func30, Try.ntmps30
  go_upto_region 1 with (fail)
  go_cut [3] (fun v wc => v = .pointer (some ⟨w.heap.size + 1, 0, none⟩) ∧ Aside0 (Below w.heap.size w wc) ∧ Aside0 (w.heap.size + 2 ≤ wc.heap.size) ∧ Aside0 (wc.heap[w.heap.size]? = some (.cells #[.string a0_0, .int .i64 k, .int .i64 a0_2, .string a0_3, .string a0_4, .bool a0_5, .slice A0_6 l0_6.length c0_6, .slice A0_7 l0_7.length c0_7, .int .i64 a0_8, .int .i64 a0_9, .int .i64 a0_10, .int .i64 a0_11, .int .i64 a0_12, .slice A0_13 l0_13.length c0_13, .slice A0_14 l0_14.length c0_14] 60 (0, 0))) ∧ Aside0 (wc.heap[w.heap.size + 1]? = some (.cells #[.nilFunc, .func (.func 65) #[] #[], .func (.func 66) #[] #[], .func (.func 67) #[] #[], .func (.func 68) #[] #[], .func (.func 69) #[] #[], .func (.func 69) #[] #[], .func (.func 65) #[] #[]] 100 (0, 0))))
  case first =>
    go_wp2
    go_meet
    case rel => exact ⟨rfl, ⟨((Below.refl _ _).alloc (Nat.le_refl _) _).alloc (by rw [al_size]; omega) _⟩, ⟨by rw [al_size, al_size]; omega⟩, ⟨(al_old _ _ _ (by rw [al_size]; omega)).trans (al_new _ _)⟩, ⟨by rw [← al_size]; exact al_new _ _⟩⟩
  case rest =>
  obtain ⟨rfl, HB1, HS1, HX1, HY1⟩ := hcut
  have hc0 : wc.cell? ⟨w.heap.size, 0, none⟩ = some (.string a0_0) := (blk_cell HX1.out 0).trans rfl
  have hc1 : wc.cell? ⟨w.heap.size, 1, none⟩ = some (.int .i64 k) := (blk_cell HX1.out 1).trans rfl
  have hc2 : wc.cell? ⟨w.heap.size, 2, none⟩ = some (.int .i64 a0_2) := (blk_cell HX1.out 2).trans rfl
  have hc3 : wc.cell? ⟨w.heap.size, 3, none⟩ = some (.string a0_3) := (blk_cell HX1.out 3).trans rfl
  have hc4 : wc.cell? ⟨w.heap.size, 4, none⟩ = some (.string a0_4) := (blk_cell HX1.out 4).trans rfl
  have hc5 : wc.cell? ⟨w.heap.size, 5, none⟩ = some (.bool a0_5) := (blk_cell HX1.out 5).trans rfl
  have hc6 : wc.cell? ⟨w.heap.size, 6, none⟩ = some (.slice A0_6 l0_6.length c0_6) := (blk_cell HX1.out 6).trans rfl
  have hc7 : wc.cell? ⟨w.heap.size, 7, none⟩ = some (.slice A0_7 l0_7.length c0_7) := (blk_cell HX1.out 7).trans rfl
  have hc8 : wc.cell? ⟨w.heap.size, 8, none⟩ = some (.int .i64 a0_8) := (blk_cell HX1.out 8).trans rfl
  have hc9 : wc.cell? ⟨w.heap.size, 9, none⟩ = some (.int .i64 a0_9) := (blk_cell HX1.out 9).trans rfl
  have hc10 : wc.cell? ⟨w.heap.size, 10, none⟩ = some (.int .i64 a0_10) := (blk_cell HX1.out 10).trans rfl
  have hc11 : wc.cell? ⟨w.heap.size, 11, none⟩ = some (.int .i64 a0_11) := (blk_cell HX1.out 11).trans rfl
  have hc12 : wc.cell? ⟨w.heap.size, 12, none⟩ = some (.int .i64 a0_12) := (blk_cell HX1.out 12).trans rfl
  have hc13 : wc.cell? ⟨w.heap.size, 13, none⟩ = some (.slice A0_13 l0_13.length c0_13) := (blk_cell HX1.out 13).trans rfl
  have hc14 : wc.cell? ⟨w.heap.size, 14, none⟩ = some (.slice A0_14 l0_14.length c0_14) := (blk_cell HX1.out 14).trans rfl
  go_upto_region 2 with (fail)
  go_cut [4] (fun v wd => ∃ g : Nat, v = .pointer (some ⟨g, 0, none⟩) ∧ Aside0 (Below w.heap.size w wd) ∧ Aside0 (wd.heap[w.heap.size]? = some (.cells #[.string a0_0, .int .i64 k, .int .i64 a0_2, .string a0_3, .string a0_4, .bool a0_5, .slice A0_6 l0_6.length c0_6, .slice A0_7 l0_7.length c0_7, .int .i64 a0_8, .int .i64 a0_9, .int .i64 a0_10, .int .i64 a0_11, .int .i64 a0_12, .slice A0_13 l0_13.length c0_13, .slice A0_14 l0_14.length c0_14] 60 (0, 0))) ∧ Aside0 (wd.heap[w.heap.size + 1]? = some (.cells #[.nilFunc, .func (.func 65) #[] #[], .func (.func 66) #[] #[], .func (.func 67) #[] #[], .func (.func 68) #[] #[], .func (.func 69) #[] #[], .func (.func 69) #[] #[], .func (.func 65) #[] #[]] 100 (0, 0))) ∧ Aside0 (wd.heap[g]? = some (.cells #[.string a0_0, .int .i64 k, .int .i64 a0_2, .string a0_3, .string a0_4, .bool a0_5, .slice A0_6 l0_6.length c0_6, .slice A0_7 l0_7.length c0_7, .int .i64 a0_8, .int .i64 a0_9, .int .i64 a0_10, .int .i64 a0_11, .int .i64 a0_12, .slice A0_13 l0_13.length c0_13, .slice A0_14 l0_14.length c0_14] 99 (0, 0))))
  case first =>
    go_wp2
    go_meet
    case rel => exact ⟨_, rfl, ⟨HB1.out.alloc (by have := HS1.out; omega) _⟩, ⟨(al_old _ _ _ (by have := HS1.out; omega)).trans HX1.out⟩, ⟨(al_old _ _ _ (by have := HS1.out; omega)).trans HY1.out⟩, ⟨al_new _ _⟩⟩
  case rest =>
  obtain ⟨g, rfl, HB2, HX2, HY2, HZ2⟩ := hcut
  clear HB1 HS1 HX1 HY1 hc0 hc1 hc2 hc3 hc4 hc5 hc6 hc7 hc8 hc9 hc10 hc11 hc12 hc13 hc14
  obtain ⟨W0, hW0⟩ : ∃ W : World, wc = W := ⟨_, rfl⟩
  subst hW0
  have HW : Aside0 (∀ w', Below wc.heap.size wc w' → Below w.heap.size w w') := ⟨fun w' h => HB2.out.trans (h.mono HB2.out.size)⟩
  have HC1 : Aside0 (∀ W, Below wc.heap.size wc W → Calls Try.prog 70 #[.agg #[.string a0_0, .int .i64 k, .int .i64 a0_2, .string a0_3, .string a0_4, .bool a0_5, .slice A0_6 l0_6.length c0_6, .slice A0_7 l0_7.length c0_7, .int .i64 a0_8, .int .i64 a0_9, .int .i64 a0_10, .int .i64 a0_11, .int .i64 a0_12, .slice A0_13 l0_13.length c0_13, .slice A0_14 l0_14.length c0_14]] W fun e w' => e = .returned (.bool (headOk a0_0 a0_2 a0_3 a0_4 l0_6 l0_7 a0_8)) ∧ Below W.heap.size W w') := ⟨fun W hW => head_at a0_0 k a0_2 a0_3 a0_4 a0_5 A0_6 c0_6 l0_6 A0_7 c0_7 l0_7 a0_8 a0_9 a0_10 a0_11 a0_12 A0_13 c0_13 l0_13 A0_14 c0_14 l0_14 W (Kd.C_below HR6.out (HW.out _ hW)) HC6.out (Kd.C_below HR7.out (HW.out _ hW)) HC7.out (Kd.C_below HR13.out (HW.out _ hW)) HC13.out (Kd.C_below HR14.out (HW.out _ hW)) HC14.out⟩
  have HC2 : Aside0 (∀ W, Below wc.heap.size wc W → Calls Try.prog 71 #[.agg #[.string a0_0, .int .i64 k, .int .i64 a0_2, .string a0_3, .string a0_4, .bool a0_5, .slice A0_6 l0_6.length c0_6, .slice A0_7 l0_7.length c0_7, .int .i64 a0_8, .int .i64 a0_9, .int .i64 a0_10, .int .i64 a0_11, .int .i64 a0_12, .slice A0_13 l0_13.length c0_13, .slice A0_14 l0_14.length c0_14]] W fun e w' => e = .returned (.bool (plainOk k a0_5 l0_6.length l0_7.length a0_9 a0_10 a0_11 a0_12 l0_13.length l0_14.length)) ∧ Below W.heap.size W w') := ⟨fun W hW => plain_at a0_0 k a0_2 a0_3 a0_4 a0_5 A0_6 c0_6 l0_6 A0_7 c0_7 l0_7 a0_8 a0_9 a0_10 a0_11 a0_12 A0_13 c0_13 l0_13 A0_14 c0_14 l0_14 W (Kd.C_below HR6.out (HW.out _ hW)) HC6.out (Kd.C_below HR7.out (HW.out _ hW)) HC7.out (Kd.C_below HR13.out (HW.out _ hW)) HC13.out (Kd.C_below HR14.out (HW.out _ hW)) HC14.out⟩
  rw [HBH.out] at HC1
  rw [HBP.out] at HC2
  have m0 : wc.cell? ⟨w.heap.size, 1, none⟩ = some (.int .i64 k) := (blk_cell HX2.out 1).trans rfl
  have n0 : wc.cell? ⟨g, 0, none⟩ = some (.string a0_0) := (blk_cell HZ2.out 0).trans rfl
  have n1 : wc.cell? ⟨g, 1, none⟩ = some (.int .i64 k) := (blk_cell HZ2.out 1).trans rfl
  have n2 : wc.cell? ⟨g, 2, none⟩ = some (.int .i64 a0_2) := (blk_cell HZ2.out 2).trans rfl
  have n3 : wc.cell? ⟨g, 3, none⟩ = some (.string a0_3) := (blk_cell HZ2.out 3).trans rfl
  have n4 : wc.cell? ⟨g, 4, none⟩ = some (.string a0_4) := (blk_cell HZ2.out 4).trans rfl
  have n5 : wc.cell? ⟨g, 5, none⟩ = some (.bool a0_5) := (blk_cell HZ2.out 5).trans rfl
  have n6 : wc.cell? ⟨g, 6, none⟩ = some (.slice A0_6 l0_6.length c0_6) := (blk_cell HZ2.out 6).trans rfl
  have n7 : wc.cell? ⟨g, 7, none⟩ = some (.slice A0_7 l0_7.length c0_7) := (blk_cell HZ2.out 7).trans rfl
  have n8 : wc.cell? ⟨g, 8, none⟩ = some (.int .i64 a0_8) := (blk_cell HZ2.out 8).trans rfl
  have n9 : wc.cell? ⟨g, 9, none⟩ = some (.int .i64 a0_9) := (blk_cell HZ2.out 9).trans rfl
  have n10 : wc.cell? ⟨g, 10, none⟩ = some (.int .i64 a0_10) := (blk_cell HZ2.out 10).trans rfl
  have n11 : wc.cell? ⟨g, 11, none⟩ = some (.int .i64 a0_11) := (blk_cell HZ2.out 11).trans rfl
  have n12 : wc.cell? ⟨g, 12, none⟩ = some (.int .i64 a0_12) := (blk_cell HZ2.out 12).trans rfl
  have n13 : wc.cell? ⟨g, 13, none⟩ = some (.slice A0_13 l0_13.length c0_13) := (blk_cell HZ2.out 13).trans rfl
  have n14 : wc.cell? ⟨g, 14, none⟩ = some (.slice A0_14 l0_14.length c0_14) := (blk_cell HZ2.out 14).trans rfl
  cases hk1 : decide (1 ≤ k)
  · have HO : Aside0 (BO = false) := ⟨by rw [HRO.out, hk1]; rfl⟩
    have MK : Aside0 (∀ w', Below wc.heap.size wc w' → w'.cell? ⟨w.heap.size, 1, none⟩ = some (.int .i64 k) ∧ w'.cell? ⟨g, 0, none⟩ = some (.string a0_0) ∧ w'.cell? ⟨g, 1, none⟩ = some (.int .i64 k) ∧ w'.cell? ⟨g, 2, none⟩ = some (.int .i64 a0_2) ∧ w'.cell? ⟨g, 3, none⟩ = some (.string a0_3) ∧ w'.cell? ⟨g, 4, none⟩ = some (.string a0_4) ∧ w'.cell? ⟨g, 5, none⟩ = some (.bool a0_5) ∧ w'.cell? ⟨g, 6, none⟩ = some (.slice A0_6 l0_6.length c0_6) ∧ w'.cell? ⟨g, 7, none⟩ = some (.slice A0_7 l0_7.length c0_7) ∧ w'.cell? ⟨g, 8, none⟩ = some (.int .i64 a0_8) ∧ w'.cell? ⟨g, 9, none⟩ = some (.int .i64 a0_9) ∧ w'.cell? ⟨g, 10, none⟩ = some (.int .i64 a0_10) ∧ w'.cell? ⟨g, 11, none⟩ = some (.int .i64 a0_11) ∧ w'.cell? ⟨g, 12, none⟩ = some (.int .i64 a0_12) ∧ w'.cell? ⟨g, 13, none⟩ = some (.slice A0_13 l0_13.length c0_13) ∧ w'.cell? ⟨g, 14, none⟩ = some (.slice A0_14 l0_14.length c0_14) ∧ Aside0 (Below wc.heap.size wc w')) := ⟨fun w' h => ⟨cells_ HX2.out h 1 _ rfl, cells_ HZ2.out h 0 _ rfl, cells_ HZ2.out h 1 _ rfl, cells_ HZ2.out h 2 _ rfl, cells_ HZ2.out h 3 _ rfl, cells_ HZ2.out h 4 _ rfl, cells_ HZ2.out h 5 _ rfl, cells_ HZ2.out h 6 _ rfl, cells_ HZ2.out h 7 _ rfl, cells_ HZ2.out h 8 _ rfl, cells_ HZ2.out h 9 _ rfl, cells_ HZ2.out h 10 _ rfl, cells_ HZ2.out h 11 _ rfl, cells_ HZ2.out h 12 _ rfl, cells_ HZ2.out h 13 _ rfl, cells_ HZ2.out h 14 _ rfl, ⟨h⟩⟩⟩
    go_upto_region 3 with (fail)
    as_aux_lemma =>
      refine start_ (n := 25) (S := (fun w' : World => w'.cell? ⟨w.heap.size, 1, none⟩ = some (.int .i64 k) ∧ w'.cell? ⟨g, 0, none⟩ = some (.string a0_0) ∧ w'.cell? ⟨g, 1, none⟩ = some (.int .i64 k) ∧ w'.cell? ⟨g, 2, none⟩ = some (.int .i64 a0_2) ∧ w'.cell? ⟨g, 3, none⟩ = some (.string a0_3) ∧ w'.cell? ⟨g, 4, none⟩ = some (.string a0_4) ∧ w'.cell? ⟨g, 5, none⟩ = some (.bool a0_5) ∧ w'.cell? ⟨g, 6, none⟩ = some (.slice A0_6 l0_6.length c0_6) ∧ w'.cell? ⟨g, 7, none⟩ = some (.slice A0_7 l0_7.length c0_7) ∧ w'.cell? ⟨g, 8, none⟩ = some (.int .i64 a0_8) ∧ w'.cell? ⟨g, 9, none⟩ = some (.int .i64 a0_9) ∧ w'.cell? ⟨g, 10, none⟩ = some (.int .i64 a0_10) ∧ w'.cell? ⟨g, 11, none⟩ = some (.int .i64 a0_11) ∧ w'.cell? ⟨g, 12, none⟩ = some (.int .i64 a0_12) ∧ w'.cell? ⟨g, 13, none⟩ = some (.slice A0_13 l0_13.length c0_13) ∧ w'.cell? ⟨g, 14, none⟩ = some (.slice A0_14 l0_14.length c0_14) ∧ Aside0 (Below wc.heap.size wc w'))) (ds := []) (mk 25 0) (by kernel_rfl) rfl rfl (MK.out _ (bel_drew _)) (fun hHeld => ?_)
      have HB4 : Aside0 (Below wc.heap.size wc wc.drew) := ⟨bel_drew _⟩
      generalize wc.drew = w4 at HB4 hHeld ⊢
      refine pure_ (i := 0) (N := some 8) (v := ?_) (a' := ?_) (mk 25 1) rfl rfl (by kernel_rfl) (fun _ _ _ h => h) (Or.inl ⟨by rfl, ?_⟩) ?_ ?_
      rotate_left; (intro w'; go_simp; with_reducible rfl)
      rotate_left; (exact pu_)
      refine take_ (i := 1) (N := some 9) (v := ?_) (a' := ?_) (mk 25 3) rfl rfl (by kernel_rfl) (fun _ _ _ h => h) (Or.inl ⟨by rfl, ?_⟩) hHeld ?_ ?_
      rotate_left
      ·
       rintro w' ⟨s0, s1, s2, s3, s4, s5, s6, s7, s8, s9, s10, s11, s12, s13, s14, s15, s16⟩
       go_simp
       with_reducible rfl
      rotate_left; (exact pu_)
      refine pure_ (i := 2) (N := some 10) (v := ?_) (a' := ?_) (mk 25 7) rfl rfl (by kernel_rfl) (fun _ _ _ h => h) (Or.inl ⟨by rfl, ?_⟩) ?_ ?_
      rotate_left; (intro w'; go_simp; with_reducible rfl)
      rotate_left; (exact pu_)
      refine pure_ (i := 3) (N := some 11) (v := ?_) (a' := ?_) (mk 25 15) rfl rfl (by kernel_rfl) (fun _ _ _ h => h) (Or.inl ⟨by rfl, ?_⟩) ?_ ?_
      rotate_left; (intro w'; go_simp; with_reducible rfl)
      rotate_left; (exact pu_)
      refine pure_ (i := 4) (N := some 12) (v := undef) (a' := ?_) (mk 25 31) rfl rfl (by kernel_rfl) (fun _ _ _ h => h) (Or.inr ⟨by rfl, rfl⟩) ?_ ?_
      rotate_left; (exact pu_)
      refine pure_ (i := 5) (N := some 13) (v := undef) (a' := ?_) (mk 25 63) rfl rfl (by kernel_rfl) (fun _ _ _ h => h) (Or.inr ⟨by rfl, rfl⟩) ?_ ?_
      rotate_left; (exact pu_)
      refine pure_ (i := 6) (N := some 14) (v := undef) (a' := ?_) (mk 25 127) rfl rfl (by kernel_rfl) (fun _ _ _ h => h) (Or.inr ⟨by rfl, rfl⟩) ?_ ?_
      rotate_left; (exact pu_)
      refine pure_ (i := 7) (N := some 15) (v := ?_) (a' := ?_) (mk 25 255) rfl rfl (by kernel_rfl) (fun _ _ _ h => h) (Or.inl ⟨by rfl, ?_⟩) ?_ ?_
      rotate_left; (intro w'; go_simp; with_reducible rfl)
      rotate_left; (exact pu_)
      refine pure_ (i := 8) (N := some 16) (v := ?_) (a' := ?_) (mk 25 511) rfl rfl (by kernel_rfl) (fun _ _ _ h => h) (Or.inl ⟨by rfl, ?_⟩) ?_ ?_
      rotate_left; (intro w'; go_simp; with_reducible rfl)
      rotate_left; (exact pu_)
      refine pure_ (i := 9) (N := some 17) (v := undef) (a' := ?_) (mk 25 1023) rfl rfl (by kernel_rfl) (fun _ _ _ h => h) (Or.inr ⟨by rfl, rfl⟩) ?_ ?_
      rotate_left; (exact pu_)
      refine pure_ (i := 10) (N := some 18) (v := undef) (a' := ?_) (mk 25 2047) rfl rfl (by kernel_rfl) (fun _ _ _ h => h) (Or.inr ⟨by rfl, rfl⟩) ?_ ?_
      rotate_left; (exact pu_)
      refine pure_ (i := 11) (N := some 19) (v := ?_) (a' := ?_) (mk 25 4095) rfl rfl (by kernel_rfl) (fun _ _ _ h => h) (Or.inl ⟨by rfl, ?_⟩) ?_ ?_
      rotate_left; (intro w'; go_simp; with_reducible rfl)
      rotate_left; (exact pu_)
      refine pure_ (i := 12) (N := some 20) (v := ?_) (a' := ?_) (mk 25 8191) rfl rfl (by kernel_rfl) (fun _ _ _ h => h) (Or.inl ⟨by rfl, ?_⟩) ?_ ?_
      rotate_left; (intro w'; go_simp; with_reducible rfl)
      rotate_left; (exact pu_)
      refine pure_ (i := 13) (N := some 21) (v := undef) (a' := ?_) (mk 25 16383) rfl rfl (by kernel_rfl) (fun _ _ _ h => h) (Or.inr ⟨by rfl, rfl⟩) ?_ ?_
      rotate_left; (exact pu_)
      refine pure_ (i := 14) (N := some 22) (v := undef) (a' := ?_) (mk 25 32767) rfl rfl (by kernel_rfl) (fun _ _ _ h => h) (Or.inr ⟨by rfl, rfl⟩) ?_ ?_
      rotate_left; (exact pu_)
      refine pure_ (i := 15) (N := some 23) (v := ?_) (a' := ?_) (mk 25 65535) rfl rfl (by kernel_rfl) (fun _ _ _ h => h) (Or.inl ⟨by rfl, ?_⟩) ?_ ?_
      rotate_left; (intro w'; go_simp; with_reducible rfl)
      rotate_left; (exact pu_)
      refine pure_ (i := 16) (N := some 24) (v := ?_) (a' := ?_) (mk 25 131071) rfl rfl (by kernel_rfl) (fun _ _ _ h => h) (Or.inl ⟨by rfl, ?_⟩) ?_ ?_
      rotate_left; (intro w'; go_simp; with_reducible rfl)
      rotate_left; (exact pu_)
      refine pure_ (i := 17) (N := some 25) (v := undef) (a' := ?_) (mk 25 262143) rfl rfl (by kernel_rfl) (fun _ _ _ h => h) (Or.inr ⟨by rfl, rfl⟩) ?_ ?_
      rotate_left; (exact pu_)
      refine pure_ (i := 18) (N := some 26) (v := undef) (a' := ?_) (mk 25 524287) rfl rfl (by kernel_rfl) (fun _ _ _ h => h) (Or.inr ⟨by rfl, rfl⟩) ?_ ?_
      rotate_left; (exact pu_)
      refine pure_ (i := 19) (N := some 27) (v := undef) (a' := ?_) (mk 25 1048575) rfl rfl (by kernel_rfl) (fun _ _ _ h => h) (Or.inr ⟨by rfl, rfl⟩) ?_ ?_
      rotate_left; (exact pu_)
      refine pure_ (i := 20) (N := some 28) (v := undef) (a' := ?_) (mk 25 2097151) rfl rfl (by kernel_rfl) (fun _ _ _ h => h) (Or.inr ⟨by rfl, rfl⟩) ?_ ?_
      rotate_left; (exact pu_)
      refine pure_ (i := 21) (N := some 29) (v := undef) (a' := ?_) (mk 25 4194303) rfl rfl (by kernel_rfl) (fun _ _ _ h => h) (Or.inr ⟨by rfl, rfl⟩) ?_ ?_
      rotate_left; (exact pu_)
      refine pure_ (i := 22) (N := some 30) (v := undef) (a' := ?_) (mk 25 8388607) rfl rfl (by kernel_rfl) (fun _ _ _ h => h) (Or.inr ⟨by rfl, rfl⟩) ?_ ?_
      rotate_left; (exact pu_)
      refine pure_ (i := 23) (N := some 31) (v := ?_) (a' := ?_) (mk 25 16777215) rfl rfl (by kernel_rfl) (fun _ _ _ h => h) (Or.inl ⟨by rfl, ?_⟩) ?_ ?_
      rotate_left; (intro w'; go_simp; with_reducible rfl)
      rotate_left; (exact pu_)
      refine pure_ (i := 24) (N := some 2) (v := ?_) (a' := ?_) (mk 25 33554431) rfl rfl (by kernel_rfl) (fun _ _ _ h => h) (Or.inl ⟨by rfl, ?_⟩) ?_ ?_
      rotate_left; (intro w'; go_simp; with_reducible rfl)
      rotate_left; (exact pu_)
      refine done_ (by kernel_rfl) ?_
      go_wp2
      go_ret
      exact ⟨by rw [HO.out] <;> rfl, HW.out _ HB4.out⟩
  have hk1' : 1 ≤ k := of_decide_eq_true hk1
  cases hk2 : decide (k < 8)
  · have HO : Aside0 (BO = false) := ⟨by rw [HRO.out, hk1, hk2]; rfl⟩
    clear hk1'
    have MK : Aside0 (∀ w', Below wc.heap.size wc w' → w'.cell? ⟨w.heap.size, 1, none⟩ = some (.int .i64 k) ∧ w'.cell? ⟨g, 0, none⟩ = some (.string a0_0) ∧ w'.cell? ⟨g, 1, none⟩ = some (.int .i64 k) ∧ w'.cell? ⟨g, 2, none⟩ = some (.int .i64 a0_2) ∧ w'.cell? ⟨g, 3, none⟩ = some (.string a0_3) ∧ w'.cell? ⟨g, 4, none⟩ = some (.string a0_4) ∧ w'.cell? ⟨g, 5, none⟩ = some (.bool a0_5) ∧ w'.cell? ⟨g, 6, none⟩ = some (.slice A0_6 l0_6.length c0_6) ∧ w'.cell? ⟨g, 7, none⟩ = some (.slice A0_7 l0_7.length c0_7) ∧ w'.cell? ⟨g, 8, none⟩ = some (.int .i64 a0_8) ∧ w'.cell? ⟨g, 9, none⟩ = some (.int .i64 a0_9) ∧ w'.cell? ⟨g, 10, none⟩ = some (.int .i64 a0_10) ∧ w'.cell? ⟨g, 11, none⟩ = some (.int .i64 a0_11) ∧ w'.cell? ⟨g, 12, none⟩ = some (.int .i64 a0_12) ∧ w'.cell? ⟨g, 13, none⟩ = some (.slice A0_13 l0_13.length c0_13) ∧ w'.cell? ⟨g, 14, none⟩ = some (.slice A0_14 l0_14.length c0_14) ∧ Aside0 (Below wc.heap.size wc w')) := ⟨fun w' h => ⟨cells_ HX2.out h 1 _ rfl, cells_ HZ2.out h 0 _ rfl, cells_ HZ2.out h 1 _ rfl, cells_ HZ2.out h 2 _ rfl, cells_ HZ2.out h 3 _ rfl, cells_ HZ2.out h 4 _ rfl, cells_ HZ2.out h 5 _ rfl, cells_ HZ2.out h 6 _ rfl, cells_ HZ2.out h 7 _ rfl, cells_ HZ2.out h 8 _ rfl, cells_ HZ2.out h 9 _ rfl, cells_ HZ2.out h 10 _ rfl, cells_ HZ2.out h 11 _ rfl, cells_ HZ2.out h 12 _ rfl, cells_ HZ2.out h 13 _ rfl, cells_ HZ2.out h 14 _ rfl, ⟨h⟩⟩⟩
    go_upto_region 3 with (fail)
    as_aux_lemma =>
      refine start_ (n := 25) (S := (fun w' : World => w'.cell? ⟨w.heap.size, 1, none⟩ = some (.int .i64 k) ∧ w'.cell? ⟨g, 0, none⟩ = some (.string a0_0) ∧ w'.cell? ⟨g, 1, none⟩ = some (.int .i64 k) ∧ w'.cell? ⟨g, 2, none⟩ = some (.int .i64 a0_2) ∧ w'.cell? ⟨g, 3, none⟩ = some (.string a0_3) ∧ w'.cell? ⟨g, 4, none⟩ = some (.string a0_4) ∧ w'.cell? ⟨g, 5, none⟩ = some (.bool a0_5) ∧ w'.cell? ⟨g, 6, none⟩ = some (.slice A0_6 l0_6.length c0_6) ∧ w'.cell? ⟨g, 7, none⟩ = some (.slice A0_7 l0_7.length c0_7) ∧ w'.cell? ⟨g, 8, none⟩ = some (.int .i64 a0_8) ∧ w'.cell? ⟨g, 9, none⟩ = some (.int .i64 a0_9) ∧ w'.cell? ⟨g, 10, none⟩ = some (.int .i64 a0_10) ∧ w'.cell? ⟨g, 11, none⟩ = some (.int .i64 a0_11) ∧ w'.cell? ⟨g, 12, none⟩ = some (.int .i64 a0_12) ∧ w'.cell? ⟨g, 13, none⟩ = some (.slice A0_13 l0_13.length c0_13) ∧ w'.cell? ⟨g, 14, none⟩ = some (.slice A0_14 l0_14.length c0_14) ∧ Aside0 (Below wc.heap.size wc w'))) (ds := []) (mk 25 0) (by kernel_rfl) rfl rfl (MK.out _ (bel_drew _)) (fun hHeld => ?_)
      have HB4 : Aside0 (Below wc.heap.size wc wc.drew) := ⟨bel_drew _⟩
      generalize wc.drew = w4 at HB4 hHeld ⊢
      refine pure_ (i := 0) (N := some 8) (v := ?_) (a' := ?_) (mk 25 1) rfl rfl (by kernel_rfl) (fun _ _ _ h => h) (Or.inl ⟨by rfl, ?_⟩) ?_ ?_
      rotate_left; (intro w'; go_simp; with_reducible rfl)
      rotate_left; (exact pu_)
      refine take_ (i := 1) (N := some 9) (v := ?_) (a' := ?_) (mk 25 3) rfl rfl (by kernel_rfl) (fun _ _ _ h => h) (Or.inl ⟨by rfl, ?_⟩) hHeld ?_ ?_
      rotate_left
      ·
       rintro w' ⟨s0, s1, s2, s3, s4, s5, s6, s7, s8, s9, s10, s11, s12, s13, s14, s15, s16⟩
       go_simp
       with_reducible rfl
      rotate_left; (exact pu_)
      refine pure_ (i := 2) (N := some 10) (v := ?_) (a' := ?_) (mk 25 7) rfl rfl (by kernel_rfl) (fun _ _ _ h => h) (Or.inl ⟨by rfl, ?_⟩) ?_ ?_
      rotate_left; (intro w'; go_simp; with_reducible rfl)
      rotate_left; (exact pu_)
      refine pure_ (i := 3) (N := some 11) (v := ?_) (a' := ?_) (mk 25 15) rfl rfl (by kernel_rfl) (fun _ _ _ h => h) (Or.inl ⟨by rfl, ?_⟩) ?_ ?_
      rotate_left; (intro w'; go_simp; with_reducible rfl)
      rotate_left; (exact pu_)
      refine pure_ (i := 4) (N := some 12) (v := ?_) (a' := ?_) (mk 25 31) rfl rfl (by kernel_rfl) (fun _ _ _ h => h) (Or.inl ⟨by rfl, ?_⟩) ?_ ?_
      rotate_left; (intro w'; go_simp; with_reducible rfl)
      rotate_left; (exact pu_)
      refine take_ (i := 5) (N := some 13) (v := ?_) (a' := ?_) (mk 25 63) rfl rfl (by kernel_rfl) (fun _ _ _ h => h) (Or.inl ⟨by rfl, ?_⟩) hHeld ?_ ?_
      rotate_left
      ·
       rintro w' ⟨s0, s1, s2, s3, s4, s5, s6, s7, s8, s9, s10, s11, s12, s13, s14, s15, s16⟩
       go_simp
       with_reducible rfl
      rotate_left; (exact pu_)
      refine pure_ (i := 6) (N := some 14) (v := ?_) (a' := ?_) (mk 25 127) rfl rfl (by kernel_rfl) (fun _ _ _ h => h) (Or.inl ⟨by rfl, ?_⟩) ?_ ?_
      rotate_left; (intro w'; go_simp; with_reducible rfl)
      rotate_left; (exact pu_)
      refine pure_ (i := 7) (N := some 15) (v := ?_) (a' := ?_) (mk 25 255) rfl rfl (by kernel_rfl) (fun _ _ _ h => h) (Or.inl ⟨by rfl, ?_⟩) ?_ ?_
      rotate_left; (intro w'; go_simp; with_reducible rfl)
      rotate_left; (exact pu_)
      refine pure_ (i := 8) (N := some 16) (v := ?_) (a' := ?_) (mk 25 511) rfl rfl (by kernel_rfl) (fun _ _ _ h => h) (Or.inl ⟨by rfl, ?_⟩) ?_ ?_
      rotate_left; (intro w'; go_simp; with_reducible rfl)
      rotate_left; (exact pu_)
      refine pure_ (i := 9) (N := some 17) (v := undef) (a' := ?_) (mk 25 1023) rfl rfl (by kernel_rfl) (fun _ _ _ h => h) (Or.inr ⟨by rfl, rfl⟩) ?_ ?_
      rotate_left; (exact pu_)
      refine pure_ (i := 10) (N := some 18) (v := undef) (a' := ?_) (mk 25 2047) rfl rfl (by kernel_rfl) (fun _ _ _ h => h) (Or.inr ⟨by rfl, rfl⟩) ?_ ?_
      rotate_left; (exact pu_)
      refine pure_ (i := 11) (N := some 19) (v := ?_) (a' := ?_) (mk 25 4095) rfl rfl (by kernel_rfl) (fun _ _ _ h => h) (Or.inl ⟨by rfl, ?_⟩) ?_ ?_
      rotate_left; (intro w'; go_simp; with_reducible rfl)
      rotate_left; (exact pu_)
      refine pure_ (i := 12) (N := some 20) (v := ?_) (a' := ?_) (mk 25 8191) rfl rfl (by kernel_rfl) (fun _ _ _ h => h) (Or.inl ⟨by rfl, ?_⟩) ?_ ?_
      rotate_left; (intro w'; go_simp; with_reducible rfl)
      rotate_left; (exact pu_)
      refine pure_ (i := 13) (N := some 21) (v := undef) (a' := ?_) (mk 25 16383) rfl rfl (by kernel_rfl) (fun _ _ _ h => h) (Or.inr ⟨by rfl, rfl⟩) ?_ ?_
      rotate_left; (exact pu_)
      refine pure_ (i := 14) (N := some 22) (v := undef) (a' := ?_) (mk 25 32767) rfl rfl (by kernel_rfl) (fun _ _ _ h => h) (Or.inr ⟨by rfl, rfl⟩) ?_ ?_
      rotate_left; (exact pu_)
      refine pure_ (i := 15) (N := some 23) (v := ?_) (a' := ?_) (mk 25 65535) rfl rfl (by kernel_rfl) (fun _ _ _ h => h) (Or.inl ⟨by rfl, ?_⟩) ?_ ?_
      rotate_left; (intro w'; go_simp; with_reducible rfl)
      rotate_left; (exact pu_)
      refine pure_ (i := 16) (N := some 24) (v := ?_) (a' := ?_) (mk 25 131071) rfl rfl (by kernel_rfl) (fun _ _ _ h => h) (Or.inl ⟨by rfl, ?_⟩) ?_ ?_
      rotate_left; (intro w'; go_simp; with_reducible rfl)
      rotate_left; (exact pu_)
      refine pure_ (i := 17) (N := some 25) (v := undef) (a' := ?_) (mk 25 262143) rfl rfl (by kernel_rfl) (fun _ _ _ h => h) (Or.inr ⟨by rfl, rfl⟩) ?_ ?_
      rotate_left; (exact pu_)
      refine pure_ (i := 18) (N := some 26) (v := undef) (a' := ?_) (mk 25 524287) rfl rfl (by kernel_rfl) (fun _ _ _ h => h) (Or.inr ⟨by rfl, rfl⟩) ?_ ?_
      rotate_left; (exact pu_)
      refine pure_ (i := 19) (N := some 27) (v := undef) (a' := ?_) (mk 25 1048575) rfl rfl (by kernel_rfl) (fun _ _ _ h => h) (Or.inr ⟨by rfl, rfl⟩) ?_ ?_
      rotate_left; (exact pu_)
      refine pure_ (i := 20) (N := some 28) (v := undef) (a' := ?_) (mk 25 2097151) rfl rfl (by kernel_rfl) (fun _ _ _ h => h) (Or.inr ⟨by rfl, rfl⟩) ?_ ?_
      rotate_left; (exact pu_)
      refine pure_ (i := 21) (N := some 29) (v := undef) (a' := ?_) (mk 25 4194303) rfl rfl (by kernel_rfl) (fun _ _ _ h => h) (Or.inr ⟨by rfl, rfl⟩) ?_ ?_
      rotate_left; (exact pu_)
      refine pure_ (i := 22) (N := some 30) (v := undef) (a' := ?_) (mk 25 8388607) rfl rfl (by kernel_rfl) (fun _ _ _ h => h) (Or.inr ⟨by rfl, rfl⟩) ?_ ?_
      rotate_left; (exact pu_)
      refine pure_ (i := 23) (N := some 31) (v := ?_) (a' := ?_) (mk 25 16777215) rfl rfl (by kernel_rfl) (fun _ _ _ h => h) (Or.inl ⟨by rfl, ?_⟩) ?_ ?_
      rotate_left; (intro w'; go_simp; with_reducible rfl)
      rotate_left; (exact pu_)
      refine pure_ (i := 24) (N := some 2) (v := ?_) (a' := ?_) (mk 25 33554431) rfl rfl (by kernel_rfl) (fun _ _ _ h => h) (Or.inl ⟨by rfl, ?_⟩) ?_ ?_
      rotate_left; (intro w'; go_simp; with_reducible rfl)
      rotate_left; (exact pu_)
      refine done_ (by kernel_rfl) ?_
      go_wp2
      go_ret
      exact ⟨by rw [HO.out] <;> rfl, HW.out _ HB4.out⟩
  have hk2' : k < 8 := of_decide_eq_true hk2
  cases BH
  · have HO : Aside0 (BO = false) := ⟨by rw [HRO.out, hk1, hk2]; rfl⟩
    clear hk1' hk2'
    have MK : Aside0 (∀ w', Below wc.heap.size wc w' → w'.cell? ⟨w.heap.size, 1, none⟩ = some (.int .i64 k) ∧ w'.cell? ⟨g, 0, none⟩ = some (.string a0_0) ∧ w'.cell? ⟨g, 1, none⟩ = some (.int .i64 k) ∧ w'.cell? ⟨g, 2, none⟩ = some (.int .i64 a0_2) ∧ w'.cell? ⟨g, 3, none⟩ = some (.string a0_3) ∧ w'.cell? ⟨g, 4, none⟩ = some (.string a0_4) ∧ w'.cell? ⟨g, 5, none⟩ = some (.bool a0_5) ∧ w'.cell? ⟨g, 6, none⟩ = some (.slice A0_6 l0_6.length c0_6) ∧ w'.cell? ⟨g, 7, none⟩ = some (.slice A0_7 l0_7.length c0_7) ∧ w'.cell? ⟨g, 8, none⟩ = some (.int .i64 a0_8) ∧ w'.cell? ⟨g, 9, none⟩ = some (.int .i64 a0_9) ∧ w'.cell? ⟨g, 10, none⟩ = some (.int .i64 a0_10) ∧ w'.cell? ⟨g, 11, none⟩ = some (.int .i64 a0_11) ∧ w'.cell? ⟨g, 12, none⟩ = some (.int .i64 a0_12) ∧ w'.cell? ⟨g, 13, none⟩ = some (.slice A0_13 l0_13.length c0_13) ∧ w'.cell? ⟨g, 14, none⟩ = some (.slice A0_14 l0_14.length c0_14) ∧ Aside0 (Below wc.heap.size wc w')) := ⟨fun w' h => ⟨cells_ HX2.out h 1 _ rfl, cells_ HZ2.out h 0 _ rfl, cells_ HZ2.out h 1 _ rfl, cells_ HZ2.out h 2 _ rfl, cells_ HZ2.out h 3 _ rfl, cells_ HZ2.out h 4 _ rfl, cells_ HZ2.out h 5 _ rfl, cells_ HZ2.out h 6 _ rfl, cells_ HZ2.out h 7 _ rfl, cells_ HZ2.out h 8 _ rfl, cells_ HZ2.out h 9 _ rfl, cells_ HZ2.out h 10 _ rfl, cells_ HZ2.out h 11 _ rfl, cells_ HZ2.out h 12 _ rfl, cells_ HZ2.out h 13 _ rfl, cells_ HZ2.out h 14 _ rfl, ⟨h⟩⟩⟩
    go_upto_region 3 with (fail)
    as_aux_lemma =>
      refine start_ (n := 25) (S := (fun w' : World => w'.cell? ⟨w.heap.size, 1, none⟩ = some (.int .i64 k) ∧ w'.cell? ⟨g, 0, none⟩ = some (.string a0_0) ∧ w'.cell? ⟨g, 1, none⟩ = some (.int .i64 k) ∧ w'.cell? ⟨g, 2, none⟩ = some (.int .i64 a0_2) ∧ w'.cell? ⟨g, 3, none⟩ = some (.string a0_3) ∧ w'.cell? ⟨g, 4, none⟩ = some (.string a0_4) ∧ w'.cell? ⟨g, 5, none⟩ = some (.bool a0_5) ∧ w'.cell? ⟨g, 6, none⟩ = some (.slice A0_6 l0_6.length c0_6) ∧ w'.cell? ⟨g, 7, none⟩ = some (.slice A0_7 l0_7.length c0_7) ∧ w'.cell? ⟨g, 8, none⟩ = some (.int .i64 a0_8) ∧ w'.cell? ⟨g, 9, none⟩ = some (.int .i64 a0_9) ∧ w'.cell? ⟨g, 10, none⟩ = some (.int .i64 a0_10) ∧ w'.cell? ⟨g, 11, none⟩ = some (.int .i64 a0_11) ∧ w'.cell? ⟨g, 12, none⟩ = some (.int .i64 a0_12) ∧ w'.cell? ⟨g, 13, none⟩ = some (.slice A0_13 l0_13.length c0_13) ∧ w'.cell? ⟨g, 14, none⟩ = some (.slice A0_14 l0_14.length c0_14) ∧ Aside0 (Below wc.heap.size wc w'))) (ds := []) (mk 25 0) (by kernel_rfl) rfl rfl (MK.out _ (bel_drew _)) (fun hHeld => ?_)
      have HB4 : Aside0 (Below wc.heap.size wc wc.drew) := ⟨bel_drew _⟩
      generalize wc.drew = w4 at HB4 hHeld ⊢
      refine pure_ (i := 0) (N := some 8) (v := ?_) (a' := ?_) (mk 25 1) rfl rfl (by kernel_rfl) (fun _ _ _ h => h) (Or.inl ⟨by rfl, ?_⟩) ?_ ?_
      rotate_left; (intro w'; go_simp; with_reducible rfl)
      rotate_left; (exact pu_)
      refine take_ (i := 1) (N := some 9) (v := ?_) (a' := ?_) (mk 25 3) rfl rfl (by kernel_rfl) (fun _ _ _ h => h) (Or.inl ⟨by rfl, ?_⟩) hHeld ?_ ?_
      rotate_left
      ·
       rintro w' ⟨s0, s1, s2, s3, s4, s5, s6, s7, s8, s9, s10, s11, s12, s13, s14, s15, s16⟩
       go_simp
       with_reducible rfl
      rotate_left; (exact pu_)
      refine pure_ (i := 2) (N := some 10) (v := ?_) (a' := ?_) (mk 25 7) rfl rfl (by kernel_rfl) (fun _ _ _ h => h) (Or.inl ⟨by rfl, ?_⟩) ?_ ?_
      rotate_left; (intro w'; go_simp; with_reducible rfl)
      rotate_left; (exact pu_)
      refine pure_ (i := 3) (N := some 11) (v := ?_) (a' := ?_) (mk 25 15) rfl rfl (by kernel_rfl) (fun _ _ _ h => h) (Or.inl ⟨by rfl, ?_⟩) ?_ ?_
      rotate_left; (intro w'; go_simp; with_reducible rfl)
      rotate_left; (exact pu_)
      refine pure_ (i := 4) (N := some 12) (v := ?_) (a' := ?_) (mk 25 31) rfl rfl (by kernel_rfl) (fun _ _ _ h => h) (Or.inl ⟨by rfl, ?_⟩) ?_ ?_
      rotate_left; (intro w'; go_simp; with_reducible rfl)
      rotate_left; (exact pu_)
      refine take_ (i := 5) (N := some 13) (v := ?_) (a' := ?_) (mk 25 63) rfl rfl (by kernel_rfl) (fun _ _ _ h => h) (Or.inl ⟨by rfl, ?_⟩) hHeld ?_ ?_
      rotate_left
      ·
       rintro w' ⟨s0, s1, s2, s3, s4, s5, s6, s7, s8, s9, s10, s11, s12, s13, s14, s15, s16⟩
       go_simp
       with_reducible rfl
      rotate_left; (exact pu_)
      refine pure_ (i := 6) (N := some 14) (v := ?_) (a' := ?_) (mk 25 127) rfl rfl (by kernel_rfl) (fun _ _ _ h => h) (Or.inl ⟨by rfl, ?_⟩) ?_ ?_
      rotate_left; (intro w'; go_simp; with_reducible rfl)
      rotate_left; (exact pu_)
      refine pure_ (i := 7) (N := some 15) (v := ?_) (a' := ?_) (mk 25 255) rfl rfl (by kernel_rfl) (fun _ _ _ h => h) (Or.inl ⟨by rfl, ?_⟩) ?_ ?_
      rotate_left; (intro w'; go_simp; with_reducible rfl)
      rotate_left; (exact pu_)
      refine pure_ (i := 8) (N := some 16) (v := ?_) (a' := ?_) (mk 25 511) rfl rfl (by kernel_rfl) (fun _ _ _ h => h) (Or.inl ⟨by rfl, ?_⟩) ?_ ?_
      rotate_left; (intro w'; go_simp; with_reducible rfl)
      rotate_left; (exact pu_)
      refine take_ (i := 9) (N := some 17) (v := ?_) (a' := ?_) (mk 25 1023) rfl rfl (by kernel_rfl) (fun _ _ _ h => h) (Or.inl ⟨by rfl, ?_⟩) hHeld ?_ ?_
      rotate_left
      ·
       rintro w' ⟨s0, s1, s2, s3, s4, s5, s6, s7, s8, s9, s10, s11, s12, s13, s14, s15, s16⟩
       go_simp
       with_reducible rfl
      rotate_left; (exact pu_)
      refine one_ (i := 10) (N := some 18) (mk 25 2047) rfl rfl (by kernel_rfl) (by decide) (fun K hK => ?_)
      refine goes_ Try.func70 (by kernel_rfl) rfl #[.agg #[.string a0_0, .int .i64 k, .int .i64 a0_2, .string a0_3, .string a0_4, .bool a0_5, .slice A0_6 l0_6.length c0_6, .slice A0_7 l0_7.length c0_7, .int .i64 a0_8, .int .i64 a0_9, .int .i64 a0_10, .int .i64 a0_11, .int .i64 a0_12, .slice A0_13 l0_13.length c0_13, .slice A0_14 l0_14.length c0_14]] (by rfl) rfl rfl am_ ?_
      refine (HC1.out _ HB4.out).mono ?_
      rintro e w5 ⟨rfl, hk5⟩
      refine ⟨_, rfl, ?_⟩
      have HB5 : Aside0 (Below wc.heap.size wc w5) := ⟨HB4.out.trans (hk5.mono HB4.out.size)⟩
      clear hk5
      refine hK.out _ _ (MK.out _ HB5.out) (fun hHeld => ?_)
      clear hK K
      refine norm_ (a' := ?_) ?_ ?_
      rotate_left; (show Act.put _ (some 18) _ = _; exact pu_)
      refine pure_ (i := 11) (N := some 19) (v := ?_) (a' := ?_) (mk 25 4095) rfl rfl (by kernel_rfl) (fun _ _ _ h => h) (Or.inl ⟨by rfl, ?_⟩) ?_ ?_
      rotate_left; (intro w'; go_simp; with_reducible rfl)
      rotate_left; (exact pu_)
      refine pure_ (i := 12) (N := some 20) (v := ?_) (a' := ?_) (mk 25 8191) rfl rfl (by kernel_rfl) (fun _ _ _ h => h) (Or.inl ⟨by rfl, ?_⟩) ?_ ?_
      rotate_left; (intro w'; go_simp; with_reducible rfl)
      rotate_left; (exact pu_)
      refine pure_ (i := 13) (N := some 21) (v := undef) (a' := ?_) (mk 25 16383) rfl rfl (by kernel_rfl) (fun _ _ _ h => h) (Or.inr ⟨by rfl, rfl⟩) ?_ ?_
      rotate_left; (exact pu_)
      refine pure_ (i := 14) (N := some 22) (v := undef) (a' := ?_) (mk 25 32767) rfl rfl (by kernel_rfl) (fun _ _ _ h => h) (Or.inr ⟨by rfl, rfl⟩) ?_ ?_
      rotate_left; (exact pu_)
      refine pure_ (i := 15) (N := some 23) (v := ?_) (a' := ?_) (mk 25 65535) rfl rfl (by kernel_rfl) (fun _ _ _ h => h) (Or.inl ⟨by rfl, ?_⟩) ?_ ?_
      rotate_left; (intro w'; go_simp; with_reducible rfl)
      rotate_left; (exact pu_)
      refine pure_ (i := 16) (N := some 24) (v := ?_) (a' := ?_) (mk 25 131071) rfl rfl (by kernel_rfl) (fun _ _ _ h => h) (Or.inl ⟨by rfl, ?_⟩) ?_ ?_
      rotate_left; (intro w'; go_simp; with_reducible rfl)
      rotate_left; (exact pu_)
      refine pure_ (i := 17) (N := some 25) (v := undef) (a' := ?_) (mk 25 262143) rfl rfl (by kernel_rfl) (fun _ _ _ h => h) (Or.inr ⟨by rfl, rfl⟩) ?_ ?_
      rotate_left; (exact pu_)
      refine pure_ (i := 18) (N := some 26) (v := undef) (a' := ?_) (mk 25 524287) rfl rfl (by kernel_rfl) (fun _ _ _ h => h) (Or.inr ⟨by rfl, rfl⟩) ?_ ?_
      rotate_left; (exact pu_)
      refine pure_ (i := 19) (N := some 27) (v := undef) (a' := ?_) (mk 25 1048575) rfl rfl (by kernel_rfl) (fun _ _ _ h => h) (Or.inr ⟨by rfl, rfl⟩) ?_ ?_
      rotate_left; (exact pu_)
      refine pure_ (i := 20) (N := some 28) (v := undef) (a' := ?_) (mk 25 2097151) rfl rfl (by kernel_rfl) (fun _ _ _ h => h) (Or.inr ⟨by rfl, rfl⟩) ?_ ?_
      rotate_left; (exact pu_)
      refine pure_ (i := 21) (N := some 29) (v := undef) (a' := ?_) (mk 25 4194303) rfl rfl (by kernel_rfl) (fun _ _ _ h => h) (Or.inr ⟨by rfl, rfl⟩) ?_ ?_
      rotate_left; (exact pu_)
      refine pure_ (i := 22) (N := some 30) (v := undef) (a' := ?_) (mk 25 8388607) rfl rfl (by kernel_rfl) (fun _ _ _ h => h) (Or.inr ⟨by rfl, rfl⟩) ?_ ?_
      rotate_left; (exact pu_)
      refine pure_ (i := 23) (N := some 31) (v := ?_) (a' := ?_) (mk 25 16777215) rfl rfl (by kernel_rfl) (fun _ _ _ h => h) (Or.inl ⟨by rfl, ?_⟩) ?_ ?_
      rotate_left; (intro w'; go_simp; with_reducible rfl)
      rotate_left; (exact pu_)
      refine pure_ (i := 24) (N := some 2) (v := ?_) (a' := ?_) (mk 25 33554431) rfl rfl (by kernel_rfl) (fun _ _ _ h => h) (Or.inl ⟨by rfl, ?_⟩) ?_ ?_
      rotate_left; (intro w'; go_simp; with_reducible rfl)
      rotate_left; (exact pu_)
      refine done_ (by kernel_rfl) ?_
      go_wp2
      go_ret
      exact ⟨by rw [HO.out] <;> rfl, HW.out _ HB5.out⟩
  cases BP
  · have HO : Aside0 (BO = false) := ⟨by rw [HRO.out, hk1, hk2]; rfl⟩
    clear hk1' hk2'
    have MK : Aside0 (∀ w', Below wc.heap.size wc w' → w'.cell? ⟨w.heap.size, 1, none⟩ = some (.int .i64 k) ∧ w'.cell? ⟨g, 0, none⟩ = some (.string a0_0) ∧ w'.cell? ⟨g, 1, none⟩ = some (.int .i64 k) ∧ w'.cell? ⟨g, 2, none⟩ = some (.int .i64 a0_2) ∧ w'.cell? ⟨g, 3, none⟩ = some (.string a0_3) ∧ w'.cell? ⟨g, 4, none⟩ = some (.string a0_4) ∧ w'.cell? ⟨g, 5, none⟩ = some (.bool a0_5) ∧ w'.cell? ⟨g, 6, none⟩ = some (.slice A0_6 l0_6.length c0_6) ∧ w'.cell? ⟨g, 7, none⟩ = some (.slice A0_7 l0_7.length c0_7) ∧ w'.cell? ⟨g, 8, none⟩ = some (.int .i64 a0_8) ∧ w'.cell? ⟨g, 9, none⟩ = some (.int .i64 a0_9) ∧ w'.cell? ⟨g, 10, none⟩ = some (.int .i64 a0_10) ∧ w'.cell? ⟨g, 11, none⟩ = some (.int .i64 a0_11) ∧ w'.cell? ⟨g, 12, none⟩ = some (.int .i64 a0_12) ∧ w'.cell? ⟨g, 13, none⟩ = some (.slice A0_13 l0_13.length c0_13) ∧ w'.cell? ⟨g, 14, none⟩ = some (.slice A0_14 l0_14.length c0_14) ∧ Aside0 (Below wc.heap.size wc w')) := ⟨fun w' h => ⟨cells_ HX2.out h 1 _ rfl, cells_ HZ2.out h 0 _ rfl, cells_ HZ2.out h 1 _ rfl, cells_ HZ2.out h 2 _ rfl, cells_ HZ2.out h 3 _ rfl, cells_ HZ2.out h 4 _ rfl, cells_ HZ2.out h 5 _ rfl, cells_ HZ2.out h 6 _ rfl, cells_ HZ2.out h 7 _ rfl, cells_ HZ2.out h 8 _ rfl, cells_ HZ2.out h 9 _ rfl, cells_ HZ2.out h 10 _ rfl, cells_ HZ2.out h 11 _ rfl, cells_ HZ2.out h 12 _ rfl, cells_ HZ2.out h 13 _ rfl, cells_ HZ2.out h 14 _ rfl, ⟨h⟩⟩⟩
    go_upto_region 3 with (fail)
    as_aux_lemma =>
      refine start_ (n := 25) (S := (fun w' : World => w'.cell? ⟨w.heap.size, 1, none⟩ = some (.int .i64 k) ∧ w'.cell? ⟨g, 0, none⟩ = some (.string a0_0) ∧ w'.cell? ⟨g, 1, none⟩ = some (.int .i64 k) ∧ w'.cell? ⟨g, 2, none⟩ = some (.int .i64 a0_2) ∧ w'.cell? ⟨g, 3, none⟩ = some (.string a0_3) ∧ w'.cell? ⟨g, 4, none⟩ = some (.string a0_4) ∧ w'.cell? ⟨g, 5, none⟩ = some (.bool a0_5) ∧ w'.cell? ⟨g, 6, none⟩ = some (.slice A0_6 l0_6.length c0_6) ∧ w'.cell? ⟨g, 7, none⟩ = some (.slice A0_7 l0_7.length c0_7) ∧ w'.cell? ⟨g, 8, none⟩ = some (.int .i64 a0_8) ∧ w'.cell? ⟨g, 9, none⟩ = some (.int .i64 a0_9) ∧ w'.cell? ⟨g, 10, none⟩ = some (.int .i64 a0_10) ∧ w'.cell? ⟨g, 11, none⟩ = some (.int .i64 a0_11) ∧ w'.cell? ⟨g, 12, none⟩ = some (.int .i64 a0_12) ∧ w'.cell? ⟨g, 13, none⟩ = some (.slice A0_13 l0_13.length c0_13) ∧ w'.cell? ⟨g, 14, none⟩ = some (.slice A0_14 l0_14.length c0_14) ∧ Aside0 (Below wc.heap.size wc w'))) (ds := []) (mk 25 0) (by kernel_rfl) rfl rfl (MK.out _ (bel_drew _)) (fun hHeld => ?_)
      have HB4 : Aside0 (Below wc.heap.size wc wc.drew) := ⟨bel_drew _⟩
      generalize wc.drew = w4 at HB4 hHeld ⊢
      refine pure_ (i := 0) (N := some 8) (v := ?_) (a' := ?_) (mk 25 1) rfl rfl (by kernel_rfl) (fun _ _ _ h => h) (Or.inl ⟨by rfl, ?_⟩) ?_ ?_
      rotate_left; (intro w'; go_simp; with_reducible rfl)
      rotate_left; (exact pu_)
      refine take_ (i := 1) (N := some 9) (v := ?_) (a' := ?_) (mk 25 3) rfl rfl (by kernel_rfl) (fun _ _ _ h => h) (Or.inl ⟨by rfl, ?_⟩) hHeld ?_ ?_
      rotate_left
      ·
       rintro w' ⟨s0, s1, s2, s3, s4, s5, s6, s7, s8, s9, s10, s11, s12, s13, s14, s15, s16⟩
       go_simp
       with_reducible rfl
      rotate_left; (exact pu_)
      refine pure_ (i := 2) (N := some 10) (v := ?_) (a' := ?_) (mk 25 7) rfl rfl (by kernel_rfl) (fun _ _ _ h => h) (Or.inl ⟨by rfl, ?_⟩) ?_ ?_
      rotate_left; (intro w'; go_simp; with_reducible rfl)
      rotate_left; (exact pu_)
      refine pure_ (i := 3) (N := some 11) (v := ?_) (a' := ?_) (mk 25 15) rfl rfl (by kernel_rfl) (fun _ _ _ h => h) (Or.inl ⟨by rfl, ?_⟩) ?_ ?_
      rotate_left; (intro w'; go_simp; with_reducible rfl)
      rotate_left; (exact pu_)
      refine pure_ (i := 4) (N := some 12) (v := ?_) (a' := ?_) (mk 25 31) rfl rfl (by kernel_rfl) (fun _ _ _ h => h) (Or.inl ⟨by rfl, ?_⟩) ?_ ?_
      rotate_left; (intro w'; go_simp; with_reducible rfl)
      rotate_left; (exact pu_)
      refine take_ (i := 5) (N := some 13) (v := ?_) (a' := ?_) (mk 25 63) rfl rfl (by kernel_rfl) (fun _ _ _ h => h) (Or.inl ⟨by rfl, ?_⟩) hHeld ?_ ?_
      rotate_left
      ·
       rintro w' ⟨s0, s1, s2, s3, s4, s5, s6, s7, s8, s9, s10, s11, s12, s13, s14, s15, s16⟩
       go_simp
       with_reducible rfl
      rotate_left; (exact pu_)
      refine pure_ (i := 6) (N := some 14) (v := ?_) (a' := ?_) (mk 25 127) rfl rfl (by kernel_rfl) (fun _ _ _ h => h) (Or.inl ⟨by rfl, ?_⟩) ?_ ?_
      rotate_left; (intro w'; go_simp; with_reducible rfl)
      rotate_left; (exact pu_)
      refine pure_ (i := 7) (N := some 15) (v := ?_) (a' := ?_) (mk 25 255) rfl rfl (by kernel_rfl) (fun _ _ _ h => h) (Or.inl ⟨by rfl, ?_⟩) ?_ ?_
      rotate_left; (intro w'; go_simp; with_reducible rfl)
      rotate_left; (exact pu_)
      refine pure_ (i := 8) (N := some 16) (v := ?_) (a' := ?_) (mk 25 511) rfl rfl (by kernel_rfl) (fun _ _ _ h => h) (Or.inl ⟨by rfl, ?_⟩) ?_ ?_
      rotate_left; (intro w'; go_simp; with_reducible rfl)
      rotate_left; (exact pu_)
      refine take_ (i := 9) (N := some 17) (v := ?_) (a' := ?_) (mk 25 1023) rfl rfl (by kernel_rfl) (fun _ _ _ h => h) (Or.inl ⟨by rfl, ?_⟩) hHeld ?_ ?_
      rotate_left
      ·
       rintro w' ⟨s0, s1, s2, s3, s4, s5, s6, s7, s8, s9, s10, s11, s12, s13, s14, s15, s16⟩
       go_simp
       with_reducible rfl
      rotate_left; (exact pu_)
      refine one_ (i := 10) (N := some 18) (mk 25 2047) rfl rfl (by kernel_rfl) (by decide) (fun K hK => ?_)
      refine goes_ Try.func70 (by kernel_rfl) rfl #[.agg #[.string a0_0, .int .i64 k, .int .i64 a0_2, .string a0_3, .string a0_4, .bool a0_5, .slice A0_6 l0_6.length c0_6, .slice A0_7 l0_7.length c0_7, .int .i64 a0_8, .int .i64 a0_9, .int .i64 a0_10, .int .i64 a0_11, .int .i64 a0_12, .slice A0_13 l0_13.length c0_13, .slice A0_14 l0_14.length c0_14]] (by rfl) rfl rfl am_ ?_
      refine (HC1.out _ HB4.out).mono ?_
      rintro e w5 ⟨rfl, hk5⟩
      refine ⟨_, rfl, ?_⟩
      have HB5 : Aside0 (Below wc.heap.size wc w5) := ⟨HB4.out.trans (hk5.mono HB4.out.size)⟩
      clear hk5
      refine hK.out _ _ (MK.out _ HB5.out) (fun hHeld => ?_)
      clear hK K
      refine norm_ (a' := ?_) ?_ ?_
      rotate_left; (show Act.put _ (some 18) _ = _; exact pu_)
      refine pure_ (i := 11) (N := some 19) (v := ?_) (a' := ?_) (mk 25 4095) rfl rfl (by kernel_rfl) (fun _ _ _ h => h) (Or.inl ⟨by rfl, ?_⟩) ?_ ?_
      rotate_left; (intro w'; go_simp; with_reducible rfl)
      rotate_left; (exact pu_)
      refine pure_ (i := 12) (N := some 20) (v := ?_) (a' := ?_) (mk 25 8191) rfl rfl (by kernel_rfl) (fun _ _ _ h => h) (Or.inl ⟨by rfl, ?_⟩) ?_ ?_
      rotate_left; (intro w'; go_simp; with_reducible rfl)
      rotate_left; (exact pu_)
      refine take_ (i := 13) (N := some 21) (v := ?_) (a' := ?_) (mk 25 16383) rfl rfl (by kernel_rfl) (fun _ _ _ h => h) (Or.inl ⟨by rfl, ?_⟩) hHeld ?_ ?_
      rotate_left
      ·
       rintro w' ⟨s0, s1, s2, s3, s4, s5, s6, s7, s8, s9, s10, s11, s12, s13, s14, s15, s16⟩
       go_simp
       with_reducible rfl
      rotate_left; (exact pu_)
      refine one_ (i := 14) (N := some 22) (mk 25 32767) rfl rfl (by kernel_rfl) (by decide) (fun K hK => ?_)
      refine goes_ Try.func71 (by kernel_rfl) rfl #[.agg #[.string a0_0, .int .i64 k, .int .i64 a0_2, .string a0_3, .string a0_4, .bool a0_5, .slice A0_6 l0_6.length c0_6, .slice A0_7 l0_7.length c0_7, .int .i64 a0_8, .int .i64 a0_9, .int .i64 a0_10, .int .i64 a0_11, .int .i64 a0_12, .slice A0_13 l0_13.length c0_13, .slice A0_14 l0_14.length c0_14]] (by rfl) rfl rfl am_ ?_
      refine (HC2.out _ HB5.out).mono ?_
      rintro e w6 ⟨rfl, hk6⟩
      refine ⟨_, rfl, ?_⟩
      have HB6 : Aside0 (Below wc.heap.size wc w6) := ⟨HB5.out.trans (hk6.mono HB5.out.size)⟩
      clear hk6
      refine hK.out _ _ (MK.out _ HB6.out) (fun hHeld => ?_)
      clear hK K
      refine norm_ (a' := ?_) ?_ ?_
      rotate_left; (show Act.put _ (some 22) _ = _; exact pu_)
      refine pure_ (i := 15) (N := some 23) (v := ?_) (a' := ?_) (mk 25 65535) rfl rfl (by kernel_rfl) (fun _ _ _ h => h) (Or.inl ⟨by rfl, ?_⟩) ?_ ?_
      rotate_left; (intro w'; go_simp; with_reducible rfl)
      rotate_left; (exact pu_)
      refine pure_ (i := 16) (N := some 24) (v := ?_) (a' := ?_) (mk 25 131071) rfl rfl (by kernel_rfl) (fun _ _ _ h => h) (Or.inl ⟨by rfl, ?_⟩) ?_ ?_
      rotate_left; (intro w'; go_simp; with_reducible rfl)
      rotate_left; (exact pu_)
      refine pure_ (i := 17) (N := some 25) (v := undef) (a' := ?_) (mk 25 262143) rfl rfl (by kernel_rfl) (fun _ _ _ h => h) (Or.inr ⟨by rfl, rfl⟩) ?_ ?_
      rotate_left; (exact pu_)
      refine pure_ (i := 18) (N := some 26) (v := undef) (a' := ?_) (mk 25 524287) rfl rfl (by kernel_rfl) (fun _ _ _ h => h) (Or.inr ⟨by rfl, rfl⟩) ?_ ?_
      rotate_left; (exact pu_)
      refine pure_ (i := 19) (N := some 27) (v := undef) (a' := ?_) (mk 25 1048575) rfl rfl (by kernel_rfl) (fun _ _ _ h => h) (Or.inr ⟨by rfl, rfl⟩) ?_ ?_
      rotate_left; (exact pu_)
      refine pure_ (i := 20) (N := some 28) (v := undef) (a' := ?_) (mk 25 2097151) rfl rfl (by kernel_rfl) (fun _ _ _ h => h) (Or.inr ⟨by rfl, rfl⟩) ?_ ?_
      rotate_left; (exact pu_)
      refine pure_ (i := 21) (N := some 29) (v := undef) (a' := ?_) (mk 25 4194303) rfl rfl (by kernel_rfl) (fun _ _ _ h => h) (Or.inr ⟨by rfl, rfl⟩) ?_ ?_
      rotate_left; (exact pu_)
      refine pure_ (i := 22) (N := some 30) (v := undef) (a' := ?_) (mk 25 8388607) rfl rfl (by kernel_rfl) (fun _ _ _ h => h) (Or.inr ⟨by rfl, rfl⟩) ?_ ?_
      rotate_left; (exact pu_)
      refine pure_ (i := 23) (N := some 31) (v := ?_) (a' := ?_) (mk 25 16777215) rfl rfl (by kernel_rfl) (fun _ _ _ h => h) (Or.inl ⟨by rfl, ?_⟩) ?_ ?_
      rotate_left; (intro w'; go_simp; with_reducible rfl)
      rotate_left; (exact pu_)
      refine pure_ (i := 24) (N := some 2) (v := ?_) (a' := ?_) (mk 25 33554431) rfl rfl (by kernel_rfl) (fun _ _ _ h => h) (Or.inl ⟨by rfl, ?_⟩) ?_ ?_
      rotate_left; (intro w'; go_simp; with_reducible rfl)
      rotate_left; (exact pu_)
      refine done_ (by kernel_rfl) ?_
      go_wp2
      go_ret
      exact ⟨by rw [HO.out] <;> rfl, HW.out _ HB6.out⟩
  rw [hk1, hk2] at HRO
  clear hk1 hk2
  rcases (show k = 1 ∨ k = 2 ∨ k = 3 ∨ k = 4 ∨ k = 5 ∨ k = 6 ∨ k = 7 by omega) with rfl | rfl | rfl | rfl | rfl | rfl | rfl
  · clear hk1' hk2'
    obtain ⟨BK, hBK⟩ : ∃ b, rateOk a0_9 = b := ⟨_, rfl⟩
    have HO : Aside0 (BO = BK) := ⟨by rw [HRO.out, ← hBK]; simp [kindOk]⟩
    have HC3 : Aside0 (∀ W, Below wc.heap.size wc W → Calls Try.prog 65 #[.agg #[.string a0_0, .int .i64 1, .int .i64 a0_2, .string a0_3, .string a0_4, .bool a0_5, .slice A0_6 l0_6.length c0_6, .slice A0_7 l0_7.length c0_7, .int .i64 a0_8, .int .i64 a0_9, .int .i64 a0_10, .int .i64 a0_11, .int .i64 a0_12, .slice A0_13 l0_13.length c0_13, .slice A0_14 l0_14.length c0_14]] W fun e w' => e = .returned (.bool BK) ∧ Below W.heap.size W w') := ⟨fun W hW => by rw [← hBK]; exact rate_at a0_0 1 a0_2 a0_3 a0_4 a0_5 A0_6 c0_6 l0_6 A0_7 c0_7 l0_7 a0_8 a0_9 a0_10 a0_11 a0_12 A0_13 c0_13 l0_13 A0_14 c0_14 l0_14 W (Kd.C_below HR6.out (HW.out _ hW)) HC6.out (Kd.C_below HR7.out (HW.out _ hW)) HC7.out (Kd.C_below HR13.out (HW.out _ hW)) HC13.out (Kd.C_below HR14.out (HW.out _ hW)) HC14.out⟩
    clear hBK
    have MK : Aside0 (∀ w', Below wc.heap.size wc w' → w'.cell? ⟨w.heap.size, 1, none⟩ = some (.int .i64 1) ∧ w'.cell? ⟨g, 0, none⟩ = some (.string a0_0) ∧ w'.cell? ⟨g, 1, none⟩ = some (.int .i64 1) ∧ w'.cell? ⟨g, 2, none⟩ = some (.int .i64 a0_2) ∧ w'.cell? ⟨g, 3, none⟩ = some (.string a0_3) ∧ w'.cell? ⟨g, 4, none⟩ = some (.string a0_4) ∧ w'.cell? ⟨g, 5, none⟩ = some (.bool a0_5) ∧ w'.cell? ⟨g, 6, none⟩ = some (.slice A0_6 l0_6.length c0_6) ∧ w'.cell? ⟨g, 7, none⟩ = some (.slice A0_7 l0_7.length c0_7) ∧ w'.cell? ⟨g, 8, none⟩ = some (.int .i64 a0_8) ∧ w'.cell? ⟨g, 9, none⟩ = some (.int .i64 a0_9) ∧ w'.cell? ⟨g, 10, none⟩ = some (.int .i64 a0_10) ∧ w'.cell? ⟨g, 11, none⟩ = some (.int .i64 a0_11) ∧ w'.cell? ⟨g, 12, none⟩ = some (.int .i64 a0_12) ∧ w'.cell? ⟨g, 13, none⟩ = some (.slice A0_13 l0_13.length c0_13) ∧ w'.cell? ⟨g, 14, none⟩ = some (.slice A0_14 l0_14.length c0_14) ∧ w'.cell? ⟨w.heap.size + 1, 1, none⟩ = some (.func (.func 65) #[] #[]) ∧ Aside0 (Below wc.heap.size wc w')) := ⟨fun w' h => ⟨cells_ HX2.out h 1 _ rfl, cells_ HZ2.out h 0 _ rfl, cells_ HZ2.out h 1 _ rfl, cells_ HZ2.out h 2 _ rfl, cells_ HZ2.out h 3 _ rfl, cells_ HZ2.out h 4 _ rfl, cells_ HZ2.out h 5 _ rfl, cells_ HZ2.out h 6 _ rfl, cells_ HZ2.out h 7 _ rfl, cells_ HZ2.out h 8 _ rfl, cells_ HZ2.out h 9 _ rfl, cells_ HZ2.out h 10 _ rfl, cells_ HZ2.out h 11 _ rfl, cells_ HZ2.out h 12 _ rfl, cells_ HZ2.out h 13 _ rfl, cells_ HZ2.out h 14 _ rfl, cells_ HY2.out h 1 _ rfl, ⟨h⟩⟩⟩
    have mf : wc.cell? ⟨w.heap.size + 1, 1, none⟩ = some (.func (.func 65) #[] #[]) := (blk_cell HY2.out 1).trans rfl
    go_upto_region 3 with (fail)
    as_aux_lemma =>
      refine start_ (n := 25) (S := (fun w' : World => w'.cell? ⟨w.heap.size, 1, none⟩ = some (.int .i64 1) ∧ w'.cell? ⟨g, 0, none⟩ = some (.string a0_0) ∧ w'.cell? ⟨g, 1, none⟩ = some (.int .i64 1) ∧ w'.cell? ⟨g, 2, none⟩ = some (.int .i64 a0_2) ∧ w'.cell? ⟨g, 3, none⟩ = some (.string a0_3) ∧ w'.cell? ⟨g, 4, none⟩ = some (.string a0_4) ∧ w'.cell? ⟨g, 5, none⟩ = some (.bool a0_5) ∧ w'.cell? ⟨g, 6, none⟩ = some (.slice A0_6 l0_6.length c0_6) ∧ w'.cell? ⟨g, 7, none⟩ = some (.slice A0_7 l0_7.length c0_7) ∧ w'.cell? ⟨g, 8, none⟩ = some (.int .i64 a0_8) ∧ w'.cell? ⟨g, 9, none⟩ = some (.int .i64 a0_9) ∧ w'.cell? ⟨g, 10, none⟩ = some (.int .i64 a0_10) ∧ w'.cell? ⟨g, 11, none⟩ = some (.int .i64 a0_11) ∧ w'.cell? ⟨g, 12, none⟩ = some (.int .i64 a0_12) ∧ w'.cell? ⟨g, 13, none⟩ = some (.slice A0_13 l0_13.length c0_13) ∧ w'.cell? ⟨g, 14, none⟩ = some (.slice A0_14 l0_14.length c0_14) ∧ w'.cell? ⟨w.heap.size + 1, 1, none⟩ = some (.func (.func 65) #[] #[]) ∧ Aside0 (Below wc.heap.size wc w'))) (ds := []) (mk 25 0) (by kernel_rfl) rfl rfl (MK.out _ (bel_drew _)) (fun hHeld => ?_)
      have HB4 : Aside0 (Below wc.heap.size wc wc.drew) := ⟨bel_drew _⟩
      generalize wc.drew = w4 at HB4 hHeld ⊢
      refine pure_ (i := 0) (N := some 8) (v := ?_) (a' := ?_) (mk 25 1) rfl rfl (by kernel_rfl) (fun _ _ _ h => h) (Or.inl ⟨by rfl, ?_⟩) ?_ ?_
      rotate_left; (intro w'; go_simp; with_reducible rfl)
      rotate_left; (exact pu_)
      refine take_ (i := 1) (N := some 9) (v := ?_) (a' := ?_) (mk 25 3) rfl rfl (by kernel_rfl) (fun _ _ _ h => h) (Or.inl ⟨by rfl, ?_⟩) hHeld ?_ ?_
      rotate_left
      ·
       rintro w' ⟨s0, s1, s2, s3, s4, s5, s6, s7, s8, s9, s10, s11, s12, s13, s14, s15, s16, s17⟩
       go_simp
       with_reducible rfl
      rotate_left; (exact pu_)
      refine pure_ (i := 2) (N := some 10) (v := ?_) (a' := ?_) (mk 25 7) rfl rfl (by kernel_rfl) (fun _ _ _ h => h) (Or.inl ⟨by rfl, ?_⟩) ?_ ?_
      rotate_left; (intro w'; go_simp; with_reducible rfl)
      rotate_left; (exact pu_)
      refine pure_ (i := 3) (N := some 11) (v := ?_) (a' := ?_) (mk 25 15) rfl rfl (by kernel_rfl) (fun _ _ _ h => h) (Or.inl ⟨by rfl, ?_⟩) ?_ ?_
      rotate_left; (intro w'; go_simp; with_reducible rfl)
      rotate_left; (exact pu_)
      refine pure_ (i := 4) (N := some 12) (v := ?_) (a' := ?_) (mk 25 31) rfl rfl (by kernel_rfl) (fun _ _ _ h => h) (Or.inl ⟨by rfl, ?_⟩) ?_ ?_
      rotate_left; (intro w'; go_simp; with_reducible rfl)
      rotate_left; (exact pu_)
      refine take_ (i := 5) (N := some 13) (v := ?_) (a' := ?_) (mk 25 63) rfl rfl (by kernel_rfl) (fun _ _ _ h => h) (Or.inl ⟨by rfl, ?_⟩) hHeld ?_ ?_
      rotate_left
      ·
       rintro w' ⟨s0, s1, s2, s3, s4, s5, s6, s7, s8, s9, s10, s11, s12, s13, s14, s15, s16, s17⟩
       go_simp
       with_reducible rfl
      rotate_left; (exact pu_)
      refine pure_ (i := 6) (N := some 14) (v := ?_) (a' := ?_) (mk 25 127) rfl rfl (by kernel_rfl) (fun _ _ _ h => h) (Or.inl ⟨by rfl, ?_⟩) ?_ ?_
      rotate_left; (intro w'; go_simp; with_reducible rfl)
      rotate_left; (exact pu_)
      refine pure_ (i := 7) (N := some 15) (v := ?_) (a' := ?_) (mk 25 255) rfl rfl (by kernel_rfl) (fun _ _ _ h => h) (Or.inl ⟨by rfl, ?_⟩) ?_ ?_
      rotate_left; (intro w'; go_simp; with_reducible rfl)
      rotate_left; (exact pu_)
      refine pure_ (i := 8) (N := some 16) (v := ?_) (a' := ?_) (mk 25 511) rfl rfl (by kernel_rfl) (fun _ _ _ h => h) (Or.inl ⟨by rfl, ?_⟩) ?_ ?_
      rotate_left; (intro w'; go_simp; with_reducible rfl)
      rotate_left; (exact pu_)
      refine take_ (i := 9) (N := some 17) (v := ?_) (a' := ?_) (mk 25 1023) rfl rfl (by kernel_rfl) (fun _ _ _ h => h) (Or.inl ⟨by rfl, ?_⟩) hHeld ?_ ?_
      rotate_left
      ·
       rintro w' ⟨s0, s1, s2, s3, s4, s5, s6, s7, s8, s9, s10, s11, s12, s13, s14, s15, s16, s17⟩
       go_simp
       with_reducible rfl
      rotate_left; (exact pu_)
      refine one_ (i := 10) (N := some 18) (mk 25 2047) rfl rfl (by kernel_rfl) (by decide) (fun K hK => ?_)
      refine goes_ Try.func70 (by kernel_rfl) rfl #[.agg #[.string a0_0, .int .i64 1, .int .i64 a0_2, .string a0_3, .string a0_4, .bool a0_5, .slice A0_6 l0_6.length c0_6, .slice A0_7 l0_7.length c0_7, .int .i64 a0_8, .int .i64 a0_9, .int .i64 a0_10, .int .i64 a0_11, .int .i64 a0_12, .slice A0_13 l0_13.length c0_13, .slice A0_14 l0_14.length c0_14]] (by rfl) rfl rfl am_ ?_
      refine (HC1.out _ HB4.out).mono ?_
      rintro e w5 ⟨rfl, hk5⟩
      refine ⟨_, rfl, ?_⟩
      have HB5 : Aside0 (Below wc.heap.size wc w5) := ⟨HB4.out.trans (hk5.mono HB4.out.size)⟩
      clear hk5
      refine hK.out _ _ (MK.out _ HB5.out) (fun hHeld => ?_)
      clear hK K
      refine norm_ (a' := ?_) ?_ ?_
      rotate_left; (show Act.put _ (some 18) _ = _; exact pu_)
      refine pure_ (i := 11) (N := some 19) (v := ?_) (a' := ?_) (mk 25 4095) rfl rfl (by kernel_rfl) (fun _ _ _ h => h) (Or.inl ⟨by rfl, ?_⟩) ?_ ?_
      rotate_left; (intro w'; go_simp; with_reducible rfl)
      rotate_left; (exact pu_)
      refine pure_ (i := 12) (N := some 20) (v := ?_) (a' := ?_) (mk 25 8191) rfl rfl (by kernel_rfl) (fun _ _ _ h => h) (Or.inl ⟨by rfl, ?_⟩) ?_ ?_
      rotate_left; (intro w'; go_simp; with_reducible rfl)
      rotate_left; (exact pu_)
      refine take_ (i := 13) (N := some 21) (v := ?_) (a' := ?_) (mk 25 16383) rfl rfl (by kernel_rfl) (fun _ _ _ h => h) (Or.inl ⟨by rfl, ?_⟩) hHeld ?_ ?_
      rotate_left
      ·
       rintro w' ⟨s0, s1, s2, s3, s4, s5, s6, s7, s8, s9, s10, s11, s12, s13, s14, s15, s16, s17⟩
       go_simp
       with_reducible rfl
      rotate_left; (exact pu_)
      refine one_ (i := 14) (N := some 22) (mk 25 32767) rfl rfl (by kernel_rfl) (by decide) (fun K hK => ?_)
      refine goes_ Try.func71 (by kernel_rfl) rfl #[.agg #[.string a0_0, .int .i64 1, .int .i64 a0_2, .string a0_3, .string a0_4, .bool a0_5, .slice A0_6 l0_6.length c0_6, .slice A0_7 l0_7.length c0_7, .int .i64 a0_8, .int .i64 a0_9, .int .i64 a0_10, .int .i64 a0_11, .int .i64 a0_12, .slice A0_13 l0_13.length c0_13, .slice A0_14 l0_14.length c0_14]] (by rfl) rfl rfl am_ ?_
      refine (HC2.out _ HB5.out).mono ?_
      rintro e w6 ⟨rfl, hk6⟩
      refine ⟨_, rfl, ?_⟩
      have HB6 : Aside0 (Below wc.heap.size wc w6) := ⟨HB5.out.trans (hk6.mono HB5.out.size)⟩
      clear hk6
      refine hK.out _ _ (MK.out _ HB6.out) (fun hHeld => ?_)
      clear hK K
      refine norm_ (a' := ?_) ?_ ?_
      rotate_left; (show Act.put _ (some 22) _ = _; exact pu_)
      refine pure_ (i := 15) (N := some 23) (v := ?_) (a' := ?_) (mk 25 65535) rfl rfl (by kernel_rfl) (fun _ _ _ h => h) (Or.inl ⟨by rfl, ?_⟩) ?_ ?_
      rotate_left; (intro w'; go_simp; with_reducible rfl)
      rotate_left; (exact pu_)
      refine pure_ (i := 16) (N := some 24) (v := ?_) (a' := ?_) (mk 25 131071) rfl rfl (by kernel_rfl) (fun _ _ _ h => h) (Or.inl ⟨by rfl, ?_⟩) ?_ ?_
      rotate_left; (intro w'; go_simp; with_reducible rfl)
      rotate_left; (exact pu_)
      refine pure_ (i := 17) (N := some 25) (v := ?_) (a' := ?_) (mk 25 262143) rfl rfl (by kernel_rfl) (fun _ _ _ h => h) (Or.inl ⟨by rfl, ?_⟩) ?_ ?_
      rotate_left; (intro w'; go_simp; with_reducible rfl)
      rotate_left; (exact pu_)
      refine take_ (i := 18) (N := some 26) (v := ?_) (a' := ?_) (mk 25 524287) rfl rfl (by kernel_rfl) (fun _ _ _ h => h) (Or.inl ⟨by rfl, ?_⟩) hHeld ?_ ?_
      rotate_left
      ·
       rintro w' ⟨s0, s1, s2, s3, s4, s5, s6, s7, s8, s9, s10, s11, s12, s13, s14, s15, s16, s17⟩
       go_simp
       with_reducible rfl
      rotate_left; (exact pu_)
      refine pure_ (i := 19) (N := some 27) (v := ?_) (a' := ?_) (mk 25 1048575) rfl rfl (by kernel_rfl) (fun _ _ _ h => h) (Or.inl ⟨by rfl, ?_⟩) ?_ ?_
      rotate_left; (intro w'; go_simp; with_reducible rfl)
      rotate_left; (exact pu_)
      refine take_ (i := 20) (N := some 28) (v := ?_) (a' := ?_) (mk 25 2097151) rfl rfl (by kernel_rfl) (fun _ _ _ h => h) (Or.inl ⟨by rfl, ?_⟩) hHeld ?_ ?_
      rotate_left
      ·
       rintro w' ⟨s0, s1, s2, s3, s4, s5, s6, s7, s8, s9, s10, s11, s12, s13, s14, s15, s16, s17⟩
       go_simp
       with_reducible rfl
      rotate_left; (exact pu_)
      refine take_ (i := 21) (N := some 29) (v := ?_) (a' := ?_) (mk 25 4194303) rfl rfl (by kernel_rfl) (fun _ _ _ h => h) (Or.inl ⟨by rfl, ?_⟩) hHeld ?_ ?_
      rotate_left
      ·
       rintro w' ⟨s0, s1, s2, s3, s4, s5, s6, s7, s8, s9, s10, s11, s12, s13, s14, s15, s16, s17⟩
       go_simp
       with_reducible rfl
      rotate_left; (exact pu_)
      refine one_ (i := 22) (N := some 30) (mk 25 8388607) rfl rfl (by kernel_rfl) (by decide) (fun K hK => ?_)
      refine HF.goesv_ 28 Try.func65 (by kernel_rfl) rfl #[.agg #[.string a0_0, .int .i64 1, .int .i64 a0_2, .string a0_3, .string a0_4, .bool a0_5, .slice A0_6 l0_6.length c0_6, .slice A0_7 l0_7.length c0_7, .int .i64 a0_8, .int .i64 a0_9, .int .i64 a0_10, .int .i64 a0_11, .int .i64 a0_12, .slice A0_13 l0_13.length c0_13, .slice A0_14 l0_14.length c0_14]] (by rfl) rfl rfl rfl am_ ?_
      refine (HC3.out _ HB6.out).mono ?_
      rintro e w7 ⟨rfl, hk7⟩
      refine ⟨_, rfl, ?_⟩
      have HB7 : Aside0 (Below wc.heap.size wc w7) := ⟨HB6.out.trans (hk7.mono HB6.out.size)⟩
      clear hk7
      refine hK.out _ _ (MK.out _ HB7.out) (fun hHeld => ?_)
      clear hK K
      refine norm_ (a' := ?_) ?_ ?_
      rotate_left; (show Act.put _ (some 30) _ = _; exact pu_)
      refine pure_ (i := 23) (N := some 31) (v := ?_) (a' := ?_) (mk 25 16777215) rfl rfl (by kernel_rfl) (fun _ _ _ h => h) (Or.inl ⟨by rfl, ?_⟩) ?_ ?_
      rotate_left; (intro w'; go_simp; with_reducible rfl)
      rotate_left; (exact pu_)
      refine pure_ (i := 24) (N := some 2) (v := ?_) (a' := ?_) (mk 25 33554431) rfl rfl (by kernel_rfl) (fun _ _ _ h => h) (Or.inl ⟨by rfl, ?_⟩) ?_ ?_
      rotate_left; (intro w'; go_simp; with_reducible rfl)
      rotate_left; (exact pu_)
      refine done_ (by kernel_rfl) ?_
      go_wp2
      go_ret
      exact ⟨by rw [HO.out] <;> rfl, HW.out _ HB7.out⟩
  · clear hk1' hk2'
    obtain ⟨BK, hBK⟩ : ∃ b, amountOk a0_10 = b := ⟨_, rfl⟩
    have HO : Aside0 (BO = BK) := ⟨by rw [HRO.out, ← hBK]; simp [kindOk]⟩
    have HC3 : Aside0 (∀ W, Below wc.heap.size wc W → Calls Try.prog 66 #[.agg #[.string a0_0, .int .i64 2, .int .i64 a0_2, .string a0_3, .string a0_4, .bool a0_5, .slice A0_6 l0_6.length c0_6, .slice A0_7 l0_7.length c0_7, .int .i64 a0_8, .int .i64 a0_9, .int .i64 a0_10, .int .i64 a0_11, .int .i64 a0_12, .slice A0_13 l0_13.length c0_13, .slice A0_14 l0_14.length c0_14]] W fun e w' => e = .returned (.bool BK) ∧ Below W.heap.size W w') := ⟨fun W hW => by rw [← hBK]; exact amount_at a0_0 2 a0_2 a0_3 a0_4 a0_5 A0_6 c0_6 l0_6 A0_7 c0_7 l0_7 a0_8 a0_9 a0_10 a0_11 a0_12 A0_13 c0_13 l0_13 A0_14 c0_14 l0_14 W (Kd.C_below HR6.out (HW.out _ hW)) HC6.out (Kd.C_below HR7.out (HW.out _ hW)) HC7.out (Kd.C_below HR13.out (HW.out _ hW)) HC13.out (Kd.C_below HR14.out (HW.out _ hW)) HC14.out⟩
    clear hBK
    have MK : Aside0 (∀ w', Below wc.heap.size wc w' → w'.cell? ⟨w.heap.size, 1, none⟩ = some (.int .i64 2) ∧ w'.cell? ⟨g, 0, none⟩ = some (.string a0_0) ∧ w'.cell? ⟨g, 1, none⟩ = some (.int .i64 2) ∧ w'.cell? ⟨g, 2, none⟩ = some (.int .i64 a0_2) ∧ w'.cell? ⟨g, 3, none⟩ = some (.string a0_3) ∧ w'.cell? ⟨g, 4, none⟩ = some (.string a0_4) ∧ w'.cell? ⟨g, 5, none⟩ = some (.bool a0_5) ∧ w'.cell? ⟨g, 6, none⟩ = some (.slice A0_6 l0_6.length c0_6) ∧ w'.cell? ⟨g, 7, none⟩ = some (.slice A0_7 l0_7.length c0_7) ∧ w'.cell? ⟨g, 8, none⟩ = some (.int .i64 a0_8) ∧ w'.cell? ⟨g, 9, none⟩ = some (.int .i64 a0_9) ∧ w'.cell? ⟨g, 10, none⟩ = some (.int .i64 a0_10) ∧ w'.cell? ⟨g, 11, none⟩ = some (.int .i64 a0_11) ∧ w'.cell? ⟨g, 12, none⟩ = some (.int .i64 a0_12) ∧ w'.cell? ⟨g, 13, none⟩ = some (.slice A0_13 l0_13.length c0_13) ∧ w'.cell? ⟨g, 14, none⟩ = some (.slice A0_14 l0_14.length c0_14) ∧ w'.cell? ⟨w.heap.size + 1, 2, none⟩ = some (.func (.func 66) #[] #[]) ∧ Aside0 (Below wc.heap.size wc w')) := ⟨fun w' h => ⟨cells_ HX2.out h 1 _ rfl, cells_ HZ2.out h 0 _ rfl, cells_ HZ2.out h 1 _ rfl, cells_ HZ2.out h 2 _ rfl, cells_ HZ2.out h 3 _ rfl, cells_ HZ2.out h 4 _ rfl, cells_ HZ2.out h 5 _ rfl, cells_ HZ2.out h 6 _ rfl, cells_ HZ2.out h 7 _ rfl, cells_ HZ2.out h 8 _ rfl, cells_ HZ2.out h 9 _ rfl, cells_ HZ2.out h 10 _ rfl, cells_ HZ2.out h 11 _ rfl, cells_ HZ2.out h 12 _ rfl, cells_ HZ2.out h 13 _ rfl, cells_ HZ2.out h 14 _ rfl, cells_ HY2.out h 2 _ rfl, ⟨h⟩⟩⟩
    have mf : wc.cell? ⟨w.heap.size + 1, 2, none⟩ = some (.func (.func 66) #[] #[]) := (blk_cell HY2.out 2).trans rfl
    go_upto_region 3 with (fail)
    as_aux_lemma =>
      refine start_ (n := 25) (S := (fun w' : World => w'.cell? ⟨w.heap.size, 1, none⟩ = some (.int .i64 2) ∧ w'.cell? ⟨g, 0, none⟩ = some (.string a0_0) ∧ w'.cell? ⟨g, 1, none⟩ = some (.int .i64 2) ∧ w'.cell? ⟨g, 2, none⟩ = some (.int .i64 a0_2) ∧ w'.cell? ⟨g, 3, none⟩ = some (.string a0_3) ∧ w'.cell? ⟨g, 4, none⟩ = some (.string a0_4) ∧ w'.cell? ⟨g, 5, none⟩ = some (.bool a0_5) ∧ w'.cell? ⟨g, 6, none⟩ = some (.slice A0_6 l0_6.length c0_6) ∧ w'.cell? ⟨g, 7, none⟩ = some (.slice A0_7 l0_7.length c0_7) ∧ w'.cell? ⟨g, 8, none⟩ = some (.int .i64 a0_8) ∧ w'.cell? ⟨g, 9, none⟩ = some (.int .i64 a0_9) ∧ w'.cell? ⟨g, 10, none⟩ = some (.int .i64 a0_10) ∧ w'.cell? ⟨g, 11, none⟩ = some (.int .i64 a0_11) ∧ w'.cell? ⟨g, 12, none⟩ = some (.int .i64 a0_12) ∧ w'.cell? ⟨g, 13, none⟩ = some (.slice A0_13 l0_13.length c0_13) ∧ w'.cell? ⟨g, 14, none⟩ = some (.slice A0_14 l0_14.length c0_14) ∧ w'.cell? ⟨w.heap.size + 1, 2, none⟩ = some (.func (.func 66) #[] #[]) ∧ Aside0 (Below wc.heap.size wc w'))) (ds := []) (mk 25 0) (by kernel_rfl) rfl rfl (MK.out _ (bel_drew _)) (fun hHeld => ?_)
      have HB4 : Aside0 (Below wc.heap.size wc wc.drew) := ⟨bel_drew _⟩
      generalize wc.drew = w4 at HB4 hHeld ⊢
      refine pure_ (i := 0) (N := some 8) (v := ?_) (a' := ?_) (mk 25 1) rfl rfl (by kernel_rfl) (fun _ _ _ h => h) (Or.inl ⟨by rfl, ?_⟩) ?_ ?_
      rotate_left; (intro w'; go_simp; with_reducible rfl)
      rotate_left; (exact pu_)
      refine take_ (i := 1) (N := some 9) (v := ?_) (a' := ?_) (mk 25 3) rfl rfl (by kernel_rfl) (fun _ _ _ h => h) (Or.inl ⟨by rfl, ?_⟩) hHeld ?_ ?_
      rotate_left
      ·
       rintro w' ⟨s0, s1, s2, s3, s4, s5, s6, s7, s8, s9, s10, s11, s12, s13, s14, s15, s16, s17⟩
       go_simp
       with_reducible rfl
      rotate_left; (exact pu_)
      refine pure_ (i := 2) (N := some 10) (v := ?_) (a' := ?_) (mk 25 7) rfl rfl (by kernel_rfl) (fun _ _ _ h => h) (Or.inl ⟨by rfl, ?_⟩) ?_ ?_
      rotate_left; (intro w'; go_simp; with_reducible rfl)
      rotate_left; (exact pu_)
      refine pure_ (i := 3) (N := some 11) (v := ?_) (a' := ?_) (mk 25 15) rfl rfl (by kernel_rfl) (fun _ _ _ h => h) (Or.inl ⟨by rfl, ?_⟩) ?_ ?_
      rotate_left; (intro w'; go_simp; with_reducible rfl)
      rotate_left; (exact pu_)
      refine pure_ (i := 4) (N := some 12) (v := ?_) (a' := ?_) (mk 25 31) rfl rfl (by kernel_rfl) (fun _ _ _ h => h) (Or.inl ⟨by rfl, ?_⟩) ?_ ?_
      rotate_left; (intro w'; go_simp; with_reducible rfl)
      rotate_left; (exact pu_)
      refine take_ (i := 5) (N := some 13) (v := ?_) (a' := ?_) (mk 25 63) rfl rfl (by kernel_rfl) (fun _ _ _ h => h) (Or.inl ⟨by rfl, ?_⟩) hHeld ?_ ?_
      rotate_left
      ·
       rintro w' ⟨s0, s1, s2, s3, s4, s5, s6, s7, s8, s9, s10, s11, s12, s13, s14, s15, s16, s17⟩
       go_simp
       with_reducible rfl
      rotate_left; (exact pu_)
      refine pure_ (i := 6) (N := some 14) (v := ?_) (a' := ?_) (mk 25 127) rfl rfl (by kernel_rfl) (fun _ _ _ h => h) (Or.inl ⟨by rfl, ?_⟩) ?_ ?_
      rotate_left; (intro w'; go_simp; with_reducible rfl)
      rotate_left; (exact pu_)
      refine pure_ (i := 7) (N := some 15) (v := ?_) (a' := ?_) (mk 25 255) rfl rfl (by kernel_rfl) (fun _ _ _ h => h) (Or.inl ⟨by rfl, ?_⟩) ?_ ?_
      rotate_left; (intro w'; go_simp; with_reducible rfl)
      rotate_left; (exact pu_)
      refine pure_ (i := 8) (N := some 16) (v := ?_) (a' := ?_) (mk 25 511) rfl rfl (by kernel_rfl) (fun _ _ _ h => h) (Or.inl ⟨by rfl, ?_⟩) ?_ ?_
      rotate_left; (intro w'; go_simp; with_reducible rfl)
      rotate_left; (exact pu_)
      refine take_ (i := 9) (N := some 17) (v := ?_) (a' := ?_) (mk 25 1023) rfl rfl (by kernel_rfl) (fun _ _ _ h => h) (Or.inl ⟨by rfl, ?_⟩) hHeld ?_ ?_
      rotate_left
      ·
       rintro w' ⟨s0, s1, s2, s3, s4, s5, s6, s7, s8, s9, s10, s11, s12, s13, s14, s15, s16, s17⟩
       go_simp
       with_reducible rfl
      rotate_left; (exact pu_)
      refine one_ (i := 10) (N := some 18) (mk 25 2047) rfl rfl (by kernel_rfl) (by decide) (fun K hK => ?_)
      refine goes_ Try.func70 (by kernel_rfl) rfl #[.agg #[.string a0_0, .int .i64 2, .int .i64 a0_2, .string a0_3, .string a0_4, .bool a0_5, .slice A0_6 l0_6.length c0_6, .slice A0_7 l0_7.length c0_7, .int .i64 a0_8, .int .i64 a0_9, .int .i64 a0_10, .int .i64 a0_11, .int .i64 a0_12, .slice A0_13 l0_13.length c0_13, .slice A0_14 l0_14.length c0_14]] (by rfl) rfl rfl am_ ?_
      refine (HC1.out _ HB4.out).mono ?_
      rintro e w5 ⟨rfl, hk5⟩
      refine ⟨_, rfl, ?_⟩
      have HB5 : Aside0 (Below wc.heap.size wc w5) := ⟨HB4.out.trans (hk5.mono HB4.out.size)⟩
      clear hk5
      refine hK.out _ _ (MK.out _ HB5.out) (fun hHeld => ?_)
      clear hK K
      refine norm_ (a' := ?_) ?_ ?_
      rotate_left; (show Act.put _ (some 18) _ = _; exact pu_)
      refine pure_ (i := 11) (N := some 19) (v := ?_) (a' := ?_) (mk 25 4095) rfl rfl (by kernel_rfl) (fun _ _ _ h => h) (Or.inl ⟨by rfl, ?_⟩) ?_ ?_
      rotate_left; (intro w'; go_simp; with_reducible rfl)
      rotate_left; (exact pu_)
      refine pure_ (i := 12) (N := some 20) (v := ?_) (a' := ?_) (mk 25 8191) rfl rfl (by kernel_rfl) (fun _ _ _ h => h) (Or.inl ⟨by rfl, ?_⟩) ?_ ?_
      rotate_left; (intro w'; go_simp; with_reducible rfl)
      rotate_left; (exact pu_)
      refine take_ (i := 13) (N := some 21) (v := ?_) (a' := ?_) (mk 25 16383) rfl rfl (by kernel_rfl) (fun _ _ _ h => h) (Or.inl ⟨by rfl, ?_⟩) hHeld ?_ ?_
      rotate_left
      ·
       rintro w' ⟨s0, s1, s2, s3, s4, s5, s6, s7, s8, s9, s10, s11, s12, s13, s14, s15, s16, s17⟩
       go_simp
       with_reducible rfl
      rotate_left; (exact pu_)
      refine one_ (i := 14) (N := some 22) (mk 25 32767) rfl rfl (by kernel_rfl) (by decide) (fun K hK => ?_)
      refine goes_ Try.func71 (by kernel_rfl) rfl #[.agg #[.string a0_0, .int .i64 2, .int .i64 a0_2, .string a0_3, .string a0_4, .bool a0_5, .slice A0_6 l0_6.length c0_6, .slice A0_7 l0_7.length c0_7, .int .i64 a0_8, .int .i64 a0_9, .int .i64 a0_10, .int .i64 a0_11, .int .i64 a0_12, .slice A0_13 l0_13.length c0_13, .slice A0_14 l0_14.length c0_14]] (by rfl) rfl rfl am_ ?_
      refine (HC2.out _ HB5.out).mono ?_
      rintro e w6 ⟨rfl, hk6⟩
      refine ⟨_, rfl, ?_⟩
      have HB6 : Aside0 (Below wc.heap.size wc w6) := ⟨HB5.out.trans (hk6.mono HB5.out.size)⟩
      clear hk6
      refine hK.out _ _ (MK.out _ HB6.out) (fun hHeld => ?_)
      clear hK K
      refine norm_ (a' := ?_) ?_ ?_
      rotate_left; (show Act.put _ (some 22) _ = _; exact pu_)
      refine pure_ (i := 15) (N := some 23) (v := ?_) (a' := ?_) (mk 25 65535) rfl rfl (by kernel_rfl) (fun _ _ _ h => h) (Or.inl ⟨by rfl, ?_⟩) ?_ ?_
      rotate_left; (intro w'; go_simp; with_reducible rfl)
      rotate_left; (exact pu_)
      refine pure_ (i := 16) (N := some 24) (v := ?_) (a' := ?_) (mk 25 131071) rfl rfl (by kernel_rfl) (fun _ _ _ h => h) (Or.inl ⟨by rfl, ?_⟩) ?_ ?_
      rotate_left; (intro w'; go_simp; with_reducible rfl)
      rotate_left; (exact pu_)
      refine pure_ (i := 17) (N := some 25) (v := ?_) (a' := ?_) (mk 25 262143) rfl rfl (by kernel_rfl) (fun _ _ _ h => h) (Or.inl ⟨by rfl, ?_⟩) ?_ ?_
      rotate_left; (intro w'; go_simp; with_reducible rfl)
      rotate_left; (exact pu_)
      refine take_ (i := 18) (N := some 26) (v := ?_) (a' := ?_) (mk 25 524287) rfl rfl (by kernel_rfl) (fun _ _ _ h => h) (Or.inl ⟨by rfl, ?_⟩) hHeld ?_ ?_
      rotate_left
      ·
       rintro w' ⟨s0, s1, s2, s3, s4, s5, s6, s7, s8, s9, s10, s11, s12, s13, s14, s15, s16, s17⟩
       go_simp
       with_reducible rfl
      rotate_left; (exact pu_)
      refine pure_ (i := 19) (N := some 27) (v := ?_) (a' := ?_) (mk 25 1048575) rfl rfl (by kernel_rfl) (fun _ _ _ h => h) (Or.inl ⟨by rfl, ?_⟩) ?_ ?_
      rotate_left; (intro w'; go_simp; with_reducible rfl)
      rotate_left; (exact pu_)
      refine take_ (i := 20) (N := some 28) (v := ?_) (a' := ?_) (mk 25 2097151) rfl rfl (by kernel_rfl) (fun _ _ _ h => h) (Or.inl ⟨by rfl, ?_⟩) hHeld ?_ ?_
      rotate_left
      ·
       rintro w' ⟨s0, s1, s2, s3, s4, s5, s6, s7, s8, s9, s10, s11, s12, s13, s14, s15, s16, s17⟩
       go_simp
       with_reducible rfl
      rotate_left; (exact pu_)
      refine take_ (i := 21) (N := some 29) (v := ?_) (a' := ?_) (mk 25 4194303) rfl rfl (by kernel_rfl) (fun _ _ _ h => h) (Or.inl ⟨by rfl, ?_⟩) hHeld ?_ ?_
      rotate_left
      ·
       rintro w' ⟨s0, s1, s2, s3, s4, s5, s6, s7, s8, s9, s10, s11, s12, s13, s14, s15, s16, s17⟩
       go_simp
       with_reducible rfl
      rotate_left; (exact pu_)
      refine one_ (i := 22) (N := some 30) (mk 25 8388607) rfl rfl (by kernel_rfl) (by decide) (fun K hK => ?_)
      refine HF.goesv_ 28 Try.func66 (by kernel_rfl) rfl #[.agg #[.string a0_0, .int .i64 2, .int .i64 a0_2, .string a0_3, .string a0_4, .bool a0_5, .slice A0_6 l0_6.length c0_6, .slice A0_7 l0_7.length c0_7, .int .i64 a0_8, .int .i64 a0_9, .int .i64 a0_10, .int .i64 a0_11, .int .i64 a0_12, .slice A0_13 l0_13.length c0_13, .slice A0_14 l0_14.length c0_14]] (by rfl) rfl rfl rfl am_ ?_
      refine (HC3.out _ HB6.out).mono ?_
      rintro e w7 ⟨rfl, hk7⟩
      refine ⟨_, rfl, ?_⟩
      have HB7 : Aside0 (Below wc.heap.size wc w7) := ⟨HB6.out.trans (hk7.mono HB6.out.size)⟩
      clear hk7
      refine hK.out _ _ (MK.out _ HB7.out) (fun hHeld => ?_)
      clear hK K
      refine norm_ (a' := ?_) ?_ ?_
      rotate_left; (show Act.put _ (some 30) _ = _; exact pu_)
      refine pure_ (i := 23) (N := some 31) (v := ?_) (a' := ?_) (mk 25 16777215) rfl rfl (by kernel_rfl) (fun _ _ _ h => h) (Or.inl ⟨by rfl, ?_⟩) ?_ ?_
      rotate_left; (intro w'; go_simp; with_reducible rfl)
      rotate_left; (exact pu_)
      refine pure_ (i := 24) (N := some 2) (v := ?_) (a' := ?_) (mk 25 33554431) rfl rfl (by kernel_rfl) (fun _ _ _ h => h) (Or.inl ⟨by rfl, ?_⟩) ?_ ?_
      rotate_left; (intro w'; go_simp; with_reducible rfl)
      rotate_left; (exact pu_)
      refine done_ (by kernel_rfl) ?_
      go_wp2
      go_ret
      exact ⟨by rw [HO.out] <;> rfl, HW.out _ HB7.out⟩
  · clear hk1' hk2'
    obtain ⟨BK, hBK⟩ : ∃ b, buyGetOk a0_9 a0_11 a0_12 = b := ⟨_, rfl⟩
    have HO : Aside0 (BO = BK) := ⟨by rw [HRO.out, ← hBK]; simp [kindOk]⟩
    have HC3 : Aside0 (∀ W, Below wc.heap.size wc W → Calls Try.prog 67 #[.agg #[.string a0_0, .int .i64 3, .int .i64 a0_2, .string a0_3, .string a0_4, .bool a0_5, .slice A0_6 l0_6.length c0_6, .slice A0_7 l0_7.length c0_7, .int .i64 a0_8, .int .i64 a0_9, .int .i64 a0_10, .int .i64 a0_11, .int .i64 a0_12, .slice A0_13 l0_13.length c0_13, .slice A0_14 l0_14.length c0_14]] W fun e w' => e = .returned (.bool BK) ∧ Below W.heap.size W w') := ⟨fun W hW => by rw [← hBK]; exact buyGet_at a0_0 3 a0_2 a0_3 a0_4 a0_5 A0_6 c0_6 l0_6 A0_7 c0_7 l0_7 a0_8 a0_9 a0_10 a0_11 a0_12 A0_13 c0_13 l0_13 A0_14 c0_14 l0_14 W (Kd.C_below HR6.out (HW.out _ hW)) HC6.out (Kd.C_below HR7.out (HW.out _ hW)) HC7.out (Kd.C_below HR13.out (HW.out _ hW)) HC13.out (Kd.C_below HR14.out (HW.out _ hW)) HC14.out⟩
    clear hBK
    have MK : Aside0 (∀ w', Below wc.heap.size wc w' → w'.cell? ⟨w.heap.size, 1, none⟩ = some (.int .i64 3) ∧ w'.cell? ⟨g, 0, none⟩ = some (.string a0_0) ∧ w'.cell? ⟨g, 1, none⟩ = some (.int .i64 3) ∧ w'.cell? ⟨g, 2, none⟩ = some (.int .i64 a0_2) ∧ w'.cell? ⟨g, 3, none⟩ = some (.string a0_3) ∧ w'.cell? ⟨g, 4, none⟩ = some (.string a0_4) ∧ w'.cell? ⟨g, 5, none⟩ = some (.bool a0_5) ∧ w'.cell? ⟨g, 6, none⟩ = some (.slice A0_6 l0_6.length c0_6) ∧ w'.cell? ⟨g, 7, none⟩ = some (.slice A0_7 l0_7.length c0_7) ∧ w'.cell? ⟨g, 8, none⟩ = some (.int .i64 a0_8) ∧ w'.cell? ⟨g, 9, none⟩ = some (.int .i64 a0_9) ∧ w'.cell? ⟨g, 10, none⟩ = some (.int .i64 a0_10) ∧ w'.cell? ⟨g, 11, none⟩ = some (.int .i64 a0_11) ∧ w'.cell? ⟨g, 12, none⟩ = some (.int .i64 a0_12) ∧ w'.cell? ⟨g, 13, none⟩ = some (.slice A0_13 l0_13.length c0_13) ∧ w'.cell? ⟨g, 14, none⟩ = some (.slice A0_14 l0_14.length c0_14) ∧ w'.cell? ⟨w.heap.size + 1, 3, none⟩ = some (.func (.func 67) #[] #[]) ∧ Aside0 (Below wc.heap.size wc w')) := ⟨fun w' h => ⟨cells_ HX2.out h 1 _ rfl, cells_ HZ2.out h 0 _ rfl, cells_ HZ2.out h 1 _ rfl, cells_ HZ2.out h 2 _ rfl, cells_ HZ2.out h 3 _ rfl, cells_ HZ2.out h 4 _ rfl, cells_ HZ2.out h 5 _ rfl, cells_ HZ2.out h 6 _ rfl, cells_ HZ2.out h 7 _ rfl, cells_ HZ2.out h 8 _ rfl, cells_ HZ2.out h 9 _ rfl, cells_ HZ2.out h 10 _ rfl, cells_ HZ2.out h 11 _ rfl, cells_ HZ2.out h 12 _ rfl, cells_ HZ2.out h 13 _ rfl, cells_ HZ2.out h 14 _ rfl, cells_ HY2.out h 3 _ rfl, ⟨h⟩⟩⟩
    have mf : wc.cell? ⟨w.heap.size + 1, 3, none⟩ = some (.func (.func 67) #[] #[]) := (blk_cell HY2.out 3).trans rfl
    go_upto_region 3 with (fail)
    as_aux_lemma =>
      refine start_ (n := 25) (S := (fun w' : World => w'.cell? ⟨w.heap.size, 1, none⟩ = some (.int .i64 3) ∧ w'.cell? ⟨g, 0, none⟩ = some (.string a0_0) ∧ w'.cell? ⟨g, 1, none⟩ = some (.int .i64 3) ∧ w'.cell? ⟨g, 2, none⟩ = some (.int .i64 a0_2) ∧ w'.cell? ⟨g, 3, none⟩ = some (.string a0_3) ∧ w'.cell? ⟨g, 4, none⟩ = some (.string a0_4) ∧ w'.cell? ⟨g, 5, none⟩ = some (.bool a0_5) ∧ w'.cell? ⟨g, 6, none⟩ = some (.slice A0_6 l0_6.length c0_6) ∧ w'.cell? ⟨g, 7, none⟩ = some (.slice A0_7 l0_7.length c0_7) ∧ w'.cell? ⟨g, 8, none⟩ = some (.int .i64 a0_8) ∧ w'.cell? ⟨g, 9, none⟩ = some (.int .i64 a0_9) ∧ w'.cell? ⟨g, 10, none⟩ = some (.int .i64 a0_10) ∧ w'.cell? ⟨g, 11, none⟩ = some (.int .i64 a0_11) ∧ w'.cell? ⟨g, 12, none⟩ = some (.int .i64 a0_12) ∧ w'.cell? ⟨g, 13, none⟩ = some (.slice A0_13 l0_13.length c0_13) ∧ w'.cell? ⟨g, 14, none⟩ = some (.slice A0_14 l0_14.length c0_14) ∧ w'.cell? ⟨w.heap.size + 1, 3, none⟩ = some (.func (.func 67) #[] #[]) ∧ Aside0 (Below wc.heap.size wc w'))) (ds := []) (mk 25 0) (by kernel_rfl) rfl rfl (MK.out _ (bel_drew _)) (fun hHeld => ?_)
      have HB4 : Aside0 (Below wc.heap.size wc wc.drew) := ⟨bel_drew _⟩
      generalize wc.drew = w4 at HB4 hHeld ⊢
      refine pure_ (i := 0) (N := some 8) (v := ?_) (a' := ?_) (mk 25 1) rfl rfl (by kernel_rfl) (fun _ _ _ h => h) (Or.inl ⟨by rfl, ?_⟩) ?_ ?_
      rotate_left; (intro w'; go_simp; with_reducible rfl)
      rotate_left; (exact pu_)
      refine take_ (i := 1) (N := some 9) (v := ?_) (a' := ?_) (mk 25 3) rfl rfl (by kernel_rfl) (fun _ _ _ h => h) (Or.inl ⟨by rfl, ?_⟩) hHeld ?_ ?_
      rotate_left
      ·
       rintro w' ⟨s0, s1, s2, s3, s4, s5, s6, s7, s8, s9, s10, s11, s12, s13, s14, s15, s16, s17⟩
       go_simp
       with_reducible rfl
      rotate_left; (exact pu_)
      refine pure_ (i := 2) (N := some 10) (v := ?_) (a' := ?_) (mk 25 7) rfl rfl (by kernel_rfl) (fun _ _ _ h => h) (Or.inl ⟨by rfl, ?_⟩) ?_ ?_
      rotate_left; (intro w'; go_simp; with_reducible rfl)
      rotate_left; (exact pu_)
      refine pure_ (i := 3) (N := some 11) (v := ?_) (a' := ?_) (mk 25 15) rfl rfl (by kernel_rfl) (fun _ _ _ h => h) (Or.inl ⟨by rfl, ?_⟩) ?_ ?_
      rotate_left; (intro w'; go_simp; with_reducible rfl)
      rotate_left; (exact pu_)
      refine pure_ (i := 4) (N := some 12) (v := ?_) (a' := ?_) (mk 25 31) rfl rfl (by kernel_rfl) (fun _ _ _ h => h) (Or.inl ⟨by rfl, ?_⟩) ?_ ?_
      rotate_left; (intro w'; go_simp; with_reducible rfl)
      rotate_left; (exact pu_)
      refine take_ (i := 5) (N := some 13) (v := ?_) (a' := ?_) (mk 25 63) rfl rfl (by kernel_rfl) (fun _ _ _ h => h) (Or.inl ⟨by rfl, ?_⟩) hHeld ?_ ?_
      rotate_left
      ·
       rintro w' ⟨s0, s1, s2, s3, s4, s5, s6, s7, s8, s9, s10, s11, s12, s13, s14, s15, s16, s17⟩
       go_simp
       with_reducible rfl
      rotate_left; (exact pu_)
      refine pure_ (i := 6) (N := some 14) (v := ?_) (a' := ?_) (mk 25 127) rfl rfl (by kernel_rfl) (fun _ _ _ h => h) (Or.inl ⟨by rfl, ?_⟩) ?_ ?_
      rotate_left; (intro w'; go_simp; with_reducible rfl)
      rotate_left; (exact pu_)
      refine pure_ (i := 7) (N := some 15) (v := ?_) (a' := ?_) (mk 25 255) rfl rfl (by kernel_rfl) (fun _ _ _ h => h) (Or.inl ⟨by rfl, ?_⟩) ?_ ?_
      rotate_left; (intro w'; go_simp; with_reducible rfl)
      rotate_left; (exact pu_)
      refine pure_ (i := 8) (N := some 16) (v := ?_) (a' := ?_) (mk 25 511) rfl rfl (by kernel_rfl) (fun _ _ _ h => h) (Or.inl ⟨by rfl, ?_⟩) ?_ ?_
      rotate_left; (intro w'; go_simp; with_reducible rfl)
      rotate_left; (exact pu_)
      refine take_ (i := 9) (N := some 17) (v := ?_) (a' := ?_) (mk 25 1023) rfl rfl (by kernel_rfl) (fun _ _ _ h => h) (Or.inl ⟨by rfl, ?_⟩) hHeld ?_ ?_
      rotate_left
      ·
       rintro w' ⟨s0, s1, s2, s3, s4, s5, s6, s7, s8, s9, s10, s11, s12, s13, s14, s15, s16, s17⟩
       go_simp
       with_reducible rfl
      rotate_left; (exact pu_)
      refine one_ (i := 10) (N := some 18) (mk 25 2047) rfl rfl (by kernel_rfl) (by decide) (fun K hK => ?_)
      refine goes_ Try.func70 (by kernel_rfl) rfl #[.agg #[.string a0_0, .int .i64 3, .int .i64 a0_2, .string a0_3, .string a0_4, .bool a0_5, .slice A0_6 l0_6.length c0_6, .slice A0_7 l0_7.length c0_7, .int .i64 a0_8, .int .i64 a0_9, .int .i64 a0_10, .int .i64 a0_11, .int .i64 a0_12, .slice A0_13 l0_13.length c0_13, .slice A0_14 l0_14.length c0_14]] (by rfl) rfl rfl am_ ?_
      refine (HC1.out _ HB4.out).mono ?_
      rintro e w5 ⟨rfl, hk5⟩
      refine ⟨_, rfl, ?_⟩
      have HB5 : Aside0 (Below wc.heap.size wc w5) := ⟨HB4.out.trans (hk5.mono HB4.out.size)⟩
      clear hk5
      refine hK.out _ _ (MK.out _ HB5.out) (fun hHeld => ?_)
      clear hK K
      refine norm_ (a' := ?_) ?_ ?_
      rotate_left; (show Act.put _ (some 18) _ = _; exact pu_)
      refine pure_ (i := 11) (N := some 19) (v := ?_) (a' := ?_) (mk 25 4095) rfl rfl (by kernel_rfl) (fun _ _ _ h => h) (Or.inl ⟨by rfl, ?_⟩) ?_ ?_
      rotate_left; (intro w'; go_simp; with_reducible rfl)
      rotate_left; (exact pu_)
      refine pure_ (i := 12) (N := some 20) (v := ?_) (a' := ?_) (mk 25 8191) rfl rfl (by kernel_rfl) (fun _ _ _ h => h) (Or.inl ⟨by rfl, ?_⟩) ?_ ?_
      rotate_left; (intro w'; go_simp; with_reducible rfl)
      rotate_left; (exact pu_)
      refine take_ (i := 13) (N := some 21) (v := ?_) (a' := ?_) (mk 25 16383) rfl rfl (by kernel_rfl) (fun _ _ _ h => h) (Or.inl ⟨by rfl, ?_⟩) hHeld ?_ ?_
      rotate_left
      ·
       rintro w' ⟨s0, s1, s2, s3, s4, s5, s6, s7, s8, s9, s10, s11, s12, s13, s14, s15, s16, s17⟩
       go_simp
       with_reducible rfl
      rotate_left; (exact pu_)
      refine one_ (i := 14) (N := some 22) (mk 25 32767) rfl rfl (by kernel_rfl) (by decide) (fun K hK => ?_)
      refine goes_ Try.func71 (by kernel_rfl) rfl #[.agg #[.string a0_0, .int .i64 3, .int .i64 a0_2, .string a0_3, .string a0_4, .bool a0_5, .slice A0_6 l0_6.length c0_6, .slice A0_7 l0_7.length c0_7, .int .i64 a0_8, .int .i64 a0_9, .int .i64 a0_10, .int .i64 a0_11, .int .i64 a0_12, .slice A0_13 l0_13.length c0_13, .slice A0_14 l0_14.length c0_14]] (by rfl) rfl rfl am_ ?_
      refine (HC2.out _ HB5.out).mono ?_
      rintro e w6 ⟨rfl, hk6⟩
      refine ⟨_, rfl, ?_⟩
      have HB6 : Aside0 (Below wc.heap.size wc w6) := ⟨HB5.out.trans (hk6.mono HB5.out.size)⟩
      clear hk6
      refine hK.out _ _ (MK.out _ HB6.out) (fun hHeld => ?_)
      clear hK K
      refine norm_ (a' := ?_) ?_ ?_
      rotate_left; (show Act.put _ (some 22) _ = _; exact pu_)
      refine pure_ (i := 15) (N := some 23) (v := ?_) (a' := ?_) (mk 25 65535) rfl rfl (by kernel_rfl) (fun _ _ _ h => h) (Or.inl ⟨by rfl, ?_⟩) ?_ ?_
      rotate_left; (intro w'; go_simp; with_reducible rfl)
      rotate_left; (exact pu_)
      refine pure_ (i := 16) (N := some 24) (v := ?_) (a' := ?_) (mk 25 131071) rfl rfl (by kernel_rfl) (fun _ _ _ h => h) (Or.inl ⟨by rfl, ?_⟩) ?_ ?_
      rotate_left; (intro w'; go_simp; with_reducible rfl)
      rotate_left; (exact pu_)
      refine pure_ (i := 17) (N := some 25) (v := ?_) (a' := ?_) (mk 25 262143) rfl rfl (by kernel_rfl) (fun _ _ _ h => h) (Or.inl ⟨by rfl, ?_⟩) ?_ ?_
      rotate_left; (intro w'; go_simp; with_reducible rfl)
      rotate_left; (exact pu_)
      refine take_ (i := 18) (N := some 26) (v := ?_) (a' := ?_) (mk 25 524287) rfl rfl (by kernel_rfl) (fun _ _ _ h => h) (Or.inl ⟨by rfl, ?_⟩) hHeld ?_ ?_
      rotate_left
      ·
       rintro w' ⟨s0, s1, s2, s3, s4, s5, s6, s7, s8, s9, s10, s11, s12, s13, s14, s15, s16, s17⟩
       go_simp
       with_reducible rfl
      rotate_left; (exact pu_)
      refine pure_ (i := 19) (N := some 27) (v := ?_) (a' := ?_) (mk 25 1048575) rfl rfl (by kernel_rfl) (fun _ _ _ h => h) (Or.inl ⟨by rfl, ?_⟩) ?_ ?_
      rotate_left; (intro w'; go_simp; with_reducible rfl)
      rotate_left; (exact pu_)
      refine take_ (i := 20) (N := some 28) (v := ?_) (a' := ?_) (mk 25 2097151) rfl rfl (by kernel_rfl) (fun _ _ _ h => h) (Or.inl ⟨by rfl, ?_⟩) hHeld ?_ ?_
      rotate_left
      ·
       rintro w' ⟨s0, s1, s2, s3, s4, s5, s6, s7, s8, s9, s10, s11, s12, s13, s14, s15, s16, s17⟩
       go_simp
       with_reducible rfl
      rotate_left; (exact pu_)
      refine take_ (i := 21) (N := some 29) (v := ?_) (a' := ?_) (mk 25 4194303) rfl rfl (by kernel_rfl) (fun _ _ _ h => h) (Or.inl ⟨by rfl, ?_⟩) hHeld ?_ ?_
      rotate_left
      ·
       rintro w' ⟨s0, s1, s2, s3, s4, s5, s6, s7, s8, s9, s10, s11, s12, s13, s14, s15, s16, s17⟩
       go_simp
       with_reducible rfl
      rotate_left; (exact pu_)
      refine one_ (i := 22) (N := some 30) (mk 25 8388607) rfl rfl (by kernel_rfl) (by decide) (fun K hK => ?_)
      refine HF.goesv_ 28 Try.func67 (by kernel_rfl) rfl #[.agg #[.string a0_0, .int .i64 3, .int .i64 a0_2, .string a0_3, .string a0_4, .bool a0_5, .slice A0_6 l0_6.length c0_6, .slice A0_7 l0_7.length c0_7, .int .i64 a0_8, .int .i64 a0_9, .int .i64 a0_10, .int .i64 a0_11, .int .i64 a0_12, .slice A0_13 l0_13.length c0_13, .slice A0_14 l0_14.length c0_14]] (by rfl) rfl rfl rfl am_ ?_
      refine (HC3.out _ HB6.out).mono ?_
      rintro e w7 ⟨rfl, hk7⟩
      refine ⟨_, rfl, ?_⟩
      have HB7 : Aside0 (Below wc.heap.size wc w7) := ⟨HB6.out.trans (hk7.mono HB6.out.size)⟩
      clear hk7
      refine hK.out _ _ (MK.out _ HB7.out) (fun hHeld => ?_)
      clear hK K
      refine norm_ (a' := ?_) ?_ ?_
      rotate_left; (show Act.put _ (some 30) _ = _; exact pu_)
      refine pure_ (i := 23) (N := some 31) (v := ?_) (a' := ?_) (mk 25 16777215) rfl rfl (by kernel_rfl) (fun _ _ _ h => h) (Or.inl ⟨by rfl, ?_⟩) ?_ ?_
      rotate_left; (intro w'; go_simp; with_reducible rfl)
      rotate_left; (exact pu_)
      refine pure_ (i := 24) (N := some 2) (v := ?_) (a' := ?_) (mk 25 33554431) rfl rfl (by kernel_rfl) (fun _ _ _ h => h) (Or.inl ⟨by rfl, ?_⟩) ?_ ?_
      rotate_left; (intro w'; go_simp; with_reducible rfl)
      rotate_left; (exact pu_)
      refine done_ (by kernel_rfl) ?_
      go_wp2
      go_ret
      exact ⟨by rw [HO.out] <;> rfl, HW.out _ HB7.out⟩
  · clear hk1' hk2'
    obtain ⟨BK, hBK⟩ : ∃ b, bundleOk a0_10 l0_13 = b := ⟨_, rfl⟩
    have HO : Aside0 (BO = BK) := ⟨by rw [HRO.out, ← hBK]; simp [kindOk]⟩
    have HC3 : Aside0 (∀ W, Below wc.heap.size wc W → Calls Try.prog 68 #[.agg #[.string a0_0, .int .i64 4, .int .i64 a0_2, .string a0_3, .string a0_4, .bool a0_5, .slice A0_6 l0_6.length c0_6, .slice A0_7 l0_7.length c0_7, .int .i64 a0_8, .int .i64 a0_9, .int .i64 a0_10, .int .i64 a0_11, .int .i64 a0_12, .slice A0_13 l0_13.length c0_13, .slice A0_14 l0_14.length c0_14]] W fun e w' => e = .returned (.bool BK) ∧ Below W.heap.size W w') := ⟨fun W hW => by rw [← hBK]; exact bundle_at a0_0 4 a0_2 a0_3 a0_4 a0_5 A0_6 c0_6 l0_6 A0_7 c0_7 l0_7 a0_8 a0_9 a0_10 a0_11 a0_12 A0_13 c0_13 l0_13 A0_14 c0_14 l0_14 W (Kd.C_below HR6.out (HW.out _ hW)) HC6.out (Kd.C_below HR7.out (HW.out _ hW)) HC7.out (Kd.C_below HR13.out (HW.out _ hW)) HC13.out (Kd.C_below HR14.out (HW.out _ hW)) HC14.out⟩
    clear hBK
    have MK : Aside0 (∀ w', Below wc.heap.size wc w' → w'.cell? ⟨w.heap.size, 1, none⟩ = some (.int .i64 4) ∧ w'.cell? ⟨g, 0, none⟩ = some (.string a0_0) ∧ w'.cell? ⟨g, 1, none⟩ = some (.int .i64 4) ∧ w'.cell? ⟨g, 2, none⟩ = some (.int .i64 a0_2) ∧ w'.cell? ⟨g, 3, none⟩ = some (.string a0_3) ∧ w'.cell? ⟨g, 4, none⟩ = some (.string a0_4) ∧ w'.cell? ⟨g, 5, none⟩ = some (.bool a0_5) ∧ w'.cell? ⟨g, 6, none⟩ = some (.slice A0_6 l0_6.length c0_6) ∧ w'.cell? ⟨g, 7, none⟩ = some (.slice A0_7 l0_7.length c0_7) ∧ w'.cell? ⟨g, 8, none⟩ = some (.int .i64 a0_8) ∧ w'.cell? ⟨g, 9, none⟩ = some (.int .i64 a0_9) ∧ w'.cell? ⟨g, 10, none⟩ = some (.int .i64 a0_10) ∧ w'.cell? ⟨g, 11, none⟩ = some (.int .i64 a0_11) ∧ w'.cell? ⟨g, 12, none⟩ = some (.int .i64 a0_12) ∧ w'.cell? ⟨g, 13, none⟩ = some (.slice A0_13 l0_13.length c0_13) ∧ w'.cell? ⟨g, 14, none⟩ = some (.slice A0_14 l0_14.length c0_14) ∧ w'.cell? ⟨w.heap.size + 1, 4, none⟩ = some (.func (.func 68) #[] #[]) ∧ Aside0 (Below wc.heap.size wc w')) := ⟨fun w' h => ⟨cells_ HX2.out h 1 _ rfl, cells_ HZ2.out h 0 _ rfl, cells_ HZ2.out h 1 _ rfl, cells_ HZ2.out h 2 _ rfl, cells_ HZ2.out h 3 _ rfl, cells_ HZ2.out h 4 _ rfl, cells_ HZ2.out h 5 _ rfl, cells_ HZ2.out h 6 _ rfl, cells_ HZ2.out h 7 _ rfl, cells_ HZ2.out h 8 _ rfl, cells_ HZ2.out h 9 _ rfl, cells_ HZ2.out h 10 _ rfl, cells_ HZ2.out h 11 _ rfl, cells_ HZ2.out h 12 _ rfl, cells_ HZ2.out h 13 _ rfl, cells_ HZ2.out h 14 _ rfl, cells_ HY2.out h 4 _ rfl, ⟨h⟩⟩⟩
    have mf : wc.cell? ⟨w.heap.size + 1, 4, none⟩ = some (.func (.func 68) #[] #[]) := (blk_cell HY2.out 4).trans rfl
    go_upto_region 3 with (fail)
    as_aux_lemma =>
      refine start_ (n := 25) (S := (fun w' : World => w'.cell? ⟨w.heap.size, 1, none⟩ = some (.int .i64 4) ∧ w'.cell? ⟨g, 0, none⟩ = some (.string a0_0) ∧ w'.cell? ⟨g, 1, none⟩ = some (.int .i64 4) ∧ w'.cell? ⟨g, 2, none⟩ = some (.int .i64 a0_2) ∧ w'.cell? ⟨g, 3, none⟩ = some (.string a0_3) ∧ w'.cell? ⟨g, 4, none⟩ = some (.string a0_4) ∧ w'.cell? ⟨g, 5, none⟩ = some (.bool a0_5) ∧ w'.cell? ⟨g, 6, none⟩ = some (.slice A0_6 l0_6.length c0_6) ∧ w'.cell? ⟨g, 7, none⟩ = some (.slice A0_7 l0_7.length c0_7) ∧ w'.cell? ⟨g, 8, none⟩ = some (.int .i64 a0_8) ∧ w'.cell? ⟨g, 9, none⟩ = some (.int .i64 a0_9) ∧ w'.cell? ⟨g, 10, none⟩ = some (.int .i64 a0_10) ∧ w'.cell? ⟨g, 11, none⟩ = some (.int .i64 a0_11) ∧ w'.cell? ⟨g, 12, none⟩ = some (.int .i64 a0_12) ∧ w'.cell? ⟨g, 13, none⟩ = some (.slice A0_13 l0_13.length c0_13) ∧ w'.cell? ⟨g, 14, none⟩ = some (.slice A0_14 l0_14.length c0_14) ∧ w'.cell? ⟨w.heap.size + 1, 4, none⟩ = some (.func (.func 68) #[] #[]) ∧ Aside0 (Below wc.heap.size wc w'))) (ds := []) (mk 25 0) (by kernel_rfl) rfl rfl (MK.out _ (bel_drew _)) (fun hHeld => ?_)
      have HB4 : Aside0 (Below wc.heap.size wc wc.drew) := ⟨bel_drew _⟩
      generalize wc.drew = w4 at HB4 hHeld ⊢
      refine pure_ (i := 0) (N := some 8) (v := ?_) (a' := ?_) (mk 25 1) rfl rfl (by kernel_rfl) (fun _ _ _ h => h) (Or.inl ⟨by rfl, ?_⟩) ?_ ?_
      rotate_left; (intro w'; go_simp; with_reducible rfl)
      rotate_left; (exact pu_)
      refine take_ (i := 1) (N := some 9) (v := ?_) (a' := ?_) (mk 25 3) rfl rfl (by kernel_rfl) (fun _ _ _ h => h) (Or.inl ⟨by rfl, ?_⟩) hHeld ?_ ?_
      rotate_left
      ·
       rintro w' ⟨s0, s1, s2, s3, s4, s5, s6, s7, s8, s9, s10, s11, s12, s13, s14, s15, s16, s17⟩
       go_simp
       with_reducible rfl
      rotate_left; (exact pu_)
      refine pure_ (i := 2) (N := some 10) (v := ?_) (a' := ?_) (mk 25 7) rfl rfl (by kernel_rfl) (fun _ _ _ h => h) (Or.inl ⟨by rfl, ?_⟩) ?_ ?_
      rotate_left; (intro w'; go_simp; with_reducible rfl)
      rotate_left; (exact pu_)
      refine pure_ (i := 3) (N := some 11) (v := ?_) (a' := ?_) (mk 25 15) rfl rfl (by kernel_rfl) (fun _ _ _ h => h) (Or.inl ⟨by rfl, ?_⟩) ?_ ?_
      rotate_left; (intro w'; go_simp; with_reducible rfl)
      rotate_left; (exact pu_)
      refine pure_ (i := 4) (N := some 12) (v := ?_) (a' := ?_) (mk 25 31) rfl rfl (by kernel_rfl) (fun _ _ _ h => h) (Or.inl ⟨by rfl, ?_⟩) ?_ ?_
      rotate_left; (intro w'; go_simp; with_reducible rfl)
      rotate_left; (exact pu_)
      refine take_ (i := 5) (N := some 13) (v := ?_) (a' := ?_) (mk 25 63) rfl rfl (by kernel_rfl) (fun _ _ _ h => h) (Or.inl ⟨by rfl, ?_⟩) hHeld ?_ ?_
      rotate_left
      ·
       rintro w' ⟨s0, s1, s2, s3, s4, s5, s6, s7, s8, s9, s10, s11, s12, s13, s14, s15, s16, s17⟩
       go_simp
       with_reducible rfl
      rotate_left; (exact pu_)
      refine pure_ (i := 6) (N := some 14) (v := ?_) (a' := ?_) (mk 25 127) rfl rfl (by kernel_rfl) (fun _ _ _ h => h) (Or.inl ⟨by rfl, ?_⟩) ?_ ?_
      rotate_left; (intro w'; go_simp; with_reducible rfl)
      rotate_left; (exact pu_)
      refine pure_ (i := 7) (N := some 15) (v := ?_) (a' := ?_) (mk 25 255) rfl rfl (by kernel_rfl) (fun _ _ _ h => h) (Or.inl ⟨by rfl, ?_⟩) ?_ ?_
      rotate_left; (intro w'; go_simp; with_reducible rfl)
      rotate_left; (exact pu_)
      refine pure_ (i := 8) (N := some 16) (v := ?_) (a' := ?_) (mk 25 511) rfl rfl (by kernel_rfl) (fun _ _ _ h => h) (Or.inl ⟨by rfl, ?_⟩) ?_ ?_
      rotate_left; (intro w'; go_simp; with_reducible rfl)
      rotate_left; (exact pu_)
      refine take_ (i := 9) (N := some 17) (v := ?_) (a' := ?_) (mk 25 1023) rfl rfl (by kernel_rfl) (fun _ _ _ h => h) (Or.inl ⟨by rfl, ?_⟩) hHeld ?_ ?_
      rotate_left
      ·
       rintro w' ⟨s0, s1, s2, s3, s4, s5, s6, s7, s8, s9, s10, s11, s12, s13, s14, s15, s16, s17⟩
       go_simp
       with_reducible rfl
      rotate_left; (exact pu_)
      refine one_ (i := 10) (N := some 18) (mk 25 2047) rfl rfl (by kernel_rfl) (by decide) (fun K hK => ?_)
      refine goes_ Try.func70 (by kernel_rfl) rfl #[.agg #[.string a0_0, .int .i64 4, .int .i64 a0_2, .string a0_3, .string a0_4, .bool a0_5, .slice A0_6 l0_6.length c0_6, .slice A0_7 l0_7.length c0_7, .int .i64 a0_8, .int .i64 a0_9, .int .i64 a0_10, .int .i64 a0_11, .int .i64 a0_12, .slice A0_13 l0_13.length c0_13, .slice A0_14 l0_14.length c0_14]] (by rfl) rfl rfl am_ ?_
      refine (HC1.out _ HB4.out).mono ?_
      rintro e w5 ⟨rfl, hk5⟩
      refine ⟨_, rfl, ?_⟩
      have HB5 : Aside0 (Below wc.heap.size wc w5) := ⟨HB4.out.trans (hk5.mono HB4.out.size)⟩
      clear hk5
      refine hK.out _ _ (MK.out _ HB5.out) (fun hHeld => ?_)
      clear hK K
      refine norm_ (a' := ?_) ?_ ?_
      rotate_left; (show Act.put _ (some 18) _ = _; exact pu_)
      refine pure_ (i := 11) (N := some 19) (v := ?_) (a' := ?_) (mk 25 4095) rfl rfl (by kernel_rfl) (fun _ _ _ h => h) (Or.inl ⟨by rfl, ?_⟩) ?_ ?_
      rotate_left; (intro w'; go_simp; with_reducible rfl)
      rotate_left; (exact pu_)
      refine pure_ (i := 12) (N := some 20) (v := ?_) (a' := ?_) (mk 25 8191) rfl rfl (by kernel_rfl) (fun _ _ _ h => h) (Or.inl ⟨by rfl, ?_⟩) ?_ ?_
      rotate_left; (intro w'; go_simp; with_reducible rfl)
      rotate_left; (exact pu_)
      refine take_ (i := 13) (N := some 21) (v := ?_) (a' := ?_) (mk 25 16383) rfl rfl (by kernel_rfl) (fun _ _ _ h => h) (Or.inl ⟨by rfl, ?_⟩) hHeld ?_ ?_
      rotate_left
      ·
       rintro w' ⟨s0, s1, s2, s3, s4, s5, s6, s7, s8, s9, s10, s11, s12, s13, s14, s15, s16, s17⟩
       go_simp
       with_reducible rfl
      rotate_left; (exact pu_)
      refine one_ (i := 14) (N := some 22) (mk 25 32767) rfl rfl (by kernel_rfl) (by decide) (fun K hK => ?_)
      refine goes_ Try.func71 (by kernel_rfl) rfl #[.agg #[.string a0_0, .int .i64 4, .int .i64 a0_2, .string a0_3, .string a0_4, .bool a0_5, .slice A0_6 l0_6.length c0_6, .slice A0_7 l0_7.length c0_7, .int .i64 a0_8, .int .i64 a0_9, .int .i64 a0_10, .int .i64 a0_11, .int .i64 a0_12, .slice A0_13 l0_13.length c0_13, .slice A0_14 l0_14.length c0_14]] (by rfl) rfl rfl am_ ?_
      refine (HC2.out _ HB5.out).mono ?_
      rintro e w6 ⟨rfl, hk6⟩
      refine ⟨_, rfl, ?_⟩
      have HB6 : Aside0 (Below wc.heap.size wc w6) := ⟨HB5.out.trans (hk6.mono HB5.out.size)⟩
      clear hk6
      refine hK.out _ _ (MK.out _ HB6.out) (fun hHeld => ?_)
      clear hK K
      refine norm_ (a' := ?_) ?_ ?_
      rotate_left; (show Act.put _ (some 22) _ = _; exact pu_)
      refine pure_ (i := 15) (N := some 23) (v := ?_) (a' := ?_) (mk 25 65535) rfl rfl (by kernel_rfl) (fun _ _ _ h => h) (Or.inl ⟨by rfl, ?_⟩) ?_ ?_
      rotate_left; (intro w'; go_simp; with_reducible rfl)
      rotate_left; (exact pu_)
      refine pure_ (i := 16) (N := some 24) (v := ?_) (a' := ?_) (mk 25 131071) rfl rfl (by kernel_rfl) (fun _ _ _ h => h) (Or.inl ⟨by rfl, ?_⟩) ?_ ?_
      rotate_left; (intro w'; go_simp; with_reducible rfl)
      rotate_left; (exact pu_)
      refine pure_ (i := 17) (N := some 25) (v := ?_) (a' := ?_) (mk 25 262143) rfl rfl (by kernel_rfl) (fun _ _ _ h => h) (Or.inl ⟨by rfl, ?_⟩) ?_ ?_
      rotate_left; (intro w'; go_simp; with_reducible rfl)
      rotate_left; (exact pu_)
      refine take_ (i := 18) (N := some 26) (v := ?_) (a' := ?_) (mk 25 524287) rfl rfl (by kernel_rfl) (fun _ _ _ h => h) (Or.inl ⟨by rfl, ?_⟩) hHeld ?_ ?_
      rotate_left
      ·
       rintro w' ⟨s0, s1, s2, s3, s4, s5, s6, s7, s8, s9, s10, s11, s12, s13, s14, s15, s16, s17⟩
       go_simp
       with_reducible rfl
      rotate_left; (exact pu_)
      refine pure_ (i := 19) (N := some 27) (v := ?_) (a' := ?_) (mk 25 1048575) rfl rfl (by kernel_rfl) (fun _ _ _ h => h) (Or.inl ⟨by rfl, ?_⟩) ?_ ?_
      rotate_left; (intro w'; go_simp; with_reducible rfl)
      rotate_left; (exact pu_)
      refine take_ (i := 20) (N := some 28) (v := ?_) (a' := ?_) (mk 25 2097151) rfl rfl (by kernel_rfl) (fun _ _ _ h => h) (Or.inl ⟨by rfl, ?_⟩) hHeld ?_ ?_
      rotate_left
      ·
       rintro w' ⟨s0, s1, s2, s3, s4, s5, s6, s7, s8, s9, s10, s11, s12, s13, s14, s15, s16, s17⟩
       go_simp
       with_reducible rfl
      rotate_left; (exact pu_)
      refine take_ (i := 21) (N := some 29) (v := ?_) (a' := ?_) (mk 25 4194303) rfl rfl (by kernel_rfl) (fun _ _ _ h => h) (Or.inl ⟨by rfl, ?_⟩) hHeld ?_ ?_
      rotate_left
      ·
       rintro w' ⟨s0, s1, s2, s3, s4, s5, s6, s7, s8, s9, s10, s11, s12, s13, s14, s15, s16, s17⟩
       go_simp
       with_reducible rfl
      rotate_left; (exact pu_)
      refine one_ (i := 22) (N := some 30) (mk 25 8388607) rfl rfl (by kernel_rfl) (by decide) (fun K hK => ?_)
      refine HF.goesv_ 28 Try.func68 (by kernel_rfl) rfl #[.agg #[.string a0_0, .int .i64 4, .int .i64 a0_2, .string a0_3, .string a0_4, .bool a0_5, .slice A0_6 l0_6.length c0_6, .slice A0_7 l0_7.length c0_7, .int .i64 a0_8, .int .i64 a0_9, .int .i64 a0_10, .int .i64 a0_11, .int .i64 a0_12, .slice A0_13 l0_13.length c0_13, .slice A0_14 l0_14.length c0_14]] (by rfl) rfl rfl rfl am_ ?_
      refine (HC3.out _ HB6.out).mono ?_
      rintro e w7 ⟨rfl, hk7⟩
      refine ⟨_, rfl, ?_⟩
      have HB7 : Aside0 (Below wc.heap.size wc w7) := ⟨HB6.out.trans (hk7.mono HB6.out.size)⟩
      clear hk7
      refine hK.out _ _ (MK.out _ HB7.out) (fun hHeld => ?_)
      clear hK K
      refine norm_ (a' := ?_) ?_ ?_
      rotate_left; (show Act.put _ (some 30) _ = _; exact pu_)
      refine pure_ (i := 23) (N := some 31) (v := ?_) (a' := ?_) (mk 25 16777215) rfl rfl (by kernel_rfl) (fun _ _ _ h => h) (Or.inl ⟨by rfl, ?_⟩) ?_ ?_
      rotate_left; (intro w'; go_simp; with_reducible rfl)
      rotate_left; (exact pu_)
      refine pure_ (i := 24) (N := some 2) (v := ?_) (a' := ?_) (mk 25 33554431) rfl rfl (by kernel_rfl) (fun _ _ _ h => h) (Or.inl ⟨by rfl, ?_⟩) ?_ ?_
      rotate_left; (intro w'; go_simp; with_reducible rfl)
      rotate_left; (exact pu_)
      refine done_ (by kernel_rfl) ?_
      go_wp2
      go_ret
      exact ⟨by rw [HO.out] <;> rfl, HW.out _ HB7.out⟩
  · clear hk1' hk2'
    obtain ⟨BK, hBK⟩ : ∃ b, tiersOk l0_14 = b := ⟨_, rfl⟩
    have HO : Aside0 (BO = BK) := ⟨by rw [HRO.out, ← hBK]; simp [kindOk]⟩
    have HC3 : Aside0 (∀ W, Below wc.heap.size wc W → Calls Try.prog 69 #[.agg #[.string a0_0, .int .i64 5, .int .i64 a0_2, .string a0_3, .string a0_4, .bool a0_5, .slice A0_6 l0_6.length c0_6, .slice A0_7 l0_7.length c0_7, .int .i64 a0_8, .int .i64 a0_9, .int .i64 a0_10, .int .i64 a0_11, .int .i64 a0_12, .slice A0_13 l0_13.length c0_13, .slice A0_14 l0_14.length c0_14]] W fun e w' => e = .returned (.bool BK) ∧ Below W.heap.size W w') := ⟨fun W hW => by rw [← hBK]; exact tiers_at a0_0 5 a0_2 a0_3 a0_4 a0_5 A0_6 c0_6 l0_6 A0_7 c0_7 l0_7 a0_8 a0_9 a0_10 a0_11 a0_12 A0_13 c0_13 l0_13 A0_14 c0_14 l0_14 W (Kd.C_below HR6.out (HW.out _ hW)) HC6.out (Kd.C_below HR7.out (HW.out _ hW)) HC7.out (Kd.C_below HR13.out (HW.out _ hW)) HC13.out (Kd.C_below HR14.out (HW.out _ hW)) HC14.out⟩
    clear hBK
    have MK : Aside0 (∀ w', Below wc.heap.size wc w' → w'.cell? ⟨w.heap.size, 1, none⟩ = some (.int .i64 5) ∧ w'.cell? ⟨g, 0, none⟩ = some (.string a0_0) ∧ w'.cell? ⟨g, 1, none⟩ = some (.int .i64 5) ∧ w'.cell? ⟨g, 2, none⟩ = some (.int .i64 a0_2) ∧ w'.cell? ⟨g, 3, none⟩ = some (.string a0_3) ∧ w'.cell? ⟨g, 4, none⟩ = some (.string a0_4) ∧ w'.cell? ⟨g, 5, none⟩ = some (.bool a0_5) ∧ w'.cell? ⟨g, 6, none⟩ = some (.slice A0_6 l0_6.length c0_6) ∧ w'.cell? ⟨g, 7, none⟩ = some (.slice A0_7 l0_7.length c0_7) ∧ w'.cell? ⟨g, 8, none⟩ = some (.int .i64 a0_8) ∧ w'.cell? ⟨g, 9, none⟩ = some (.int .i64 a0_9) ∧ w'.cell? ⟨g, 10, none⟩ = some (.int .i64 a0_10) ∧ w'.cell? ⟨g, 11, none⟩ = some (.int .i64 a0_11) ∧ w'.cell? ⟨g, 12, none⟩ = some (.int .i64 a0_12) ∧ w'.cell? ⟨g, 13, none⟩ = some (.slice A0_13 l0_13.length c0_13) ∧ w'.cell? ⟨g, 14, none⟩ = some (.slice A0_14 l0_14.length c0_14) ∧ w'.cell? ⟨w.heap.size + 1, 5, none⟩ = some (.func (.func 69) #[] #[]) ∧ Aside0 (Below wc.heap.size wc w')) := ⟨fun w' h => ⟨cells_ HX2.out h 1 _ rfl, cells_ HZ2.out h 0 _ rfl, cells_ HZ2.out h 1 _ rfl, cells_ HZ2.out h 2 _ rfl, cells_ HZ2.out h 3 _ rfl, cells_ HZ2.out h 4 _ rfl, cells_ HZ2.out h 5 _ rfl, cells_ HZ2.out h 6 _ rfl, cells_ HZ2.out h 7 _ rfl, cells_ HZ2.out h 8 _ rfl, cells_ HZ2.out h 9 _ rfl, cells_ HZ2.out h 10 _ rfl, cells_ HZ2.out h 11 _ rfl, cells_ HZ2.out h 12 _ rfl, cells_ HZ2.out h 13 _ rfl, cells_ HZ2.out h 14 _ rfl, cells_ HY2.out h 5 _ rfl, ⟨h⟩⟩⟩
    have mf : wc.cell? ⟨w.heap.size + 1, 5, none⟩ = some (.func (.func 69) #[] #[]) := (blk_cell HY2.out 5).trans rfl
    go_upto_region 3 with (fail)
    as_aux_lemma =>
      refine start_ (n := 25) (S := (fun w' : World => w'.cell? ⟨w.heap.size, 1, none⟩ = some (.int .i64 5) ∧ w'.cell? ⟨g, 0, none⟩ = some (.string a0_0) ∧ w'.cell? ⟨g, 1, none⟩ = some (.int .i64 5) ∧ w'.cell? ⟨g, 2, none⟩ = some (.int .i64 a0_2) ∧ w'.cell? ⟨g, 3, none⟩ = some (.string a0_3) ∧ w'.cell? ⟨g, 4, none⟩ = some (.string a0_4) ∧ w'.cell? ⟨g, 5, none⟩ = some (.bool a0_5) ∧ w'.cell? ⟨g, 6, none⟩ = some (.slice A0_6 l0_6.length c0_6) ∧ w'.cell? ⟨g, 7, none⟩ = some (.slice A0_7 l0_7.length c0_7) ∧ w'.cell? ⟨g, 8, none⟩ = some (.int .i64 a0_8) ∧ w'.cell? ⟨g, 9, none⟩ = some (.int .i64 a0_9) ∧ w'.cell? ⟨g, 10, none⟩ = some (.int .i64 a0_10) ∧ w'.cell? ⟨g, 11, none⟩ = some (.int .i64 a0_11) ∧ w'.cell? ⟨g, 12, none⟩ = some (.int .i64 a0_12) ∧ w'.cell? ⟨g, 13, none⟩ = some (.slice A0_13 l0_13.length c0_13) ∧ w'.cell? ⟨g, 14, none⟩ = some (.slice A0_14 l0_14.length c0_14) ∧ w'.cell? ⟨w.heap.size + 1, 5, none⟩ = some (.func (.func 69) #[] #[]) ∧ Aside0 (Below wc.heap.size wc w'))) (ds := []) (mk 25 0) (by kernel_rfl) rfl rfl (MK.out _ (bel_drew _)) (fun hHeld => ?_)
      have HB4 : Aside0 (Below wc.heap.size wc wc.drew) := ⟨bel_drew _⟩
      generalize wc.drew = w4 at HB4 hHeld ⊢
      refine pure_ (i := 0) (N := some 8) (v := ?_) (a' := ?_) (mk 25 1) rfl rfl (by kernel_rfl) (fun _ _ _ h => h) (Or.inl ⟨by rfl, ?_⟩) ?_ ?_
      rotate_left; (intro w'; go_simp; with_reducible rfl)
      rotate_left; (exact pu_)
      refine take_ (i := 1) (N := some 9) (v := ?_) (a' := ?_) (mk 25 3) rfl rfl (by kernel_rfl) (fun _ _ _ h => h) (Or.inl ⟨by rfl, ?_⟩) hHeld ?_ ?_
      rotate_left
      ·
       rintro w' ⟨s0, s1, s2, s3, s4, s5, s6, s7, s8, s9, s10, s11, s12, s13, s14, s15, s16, s17⟩
       go_simp
       with_reducible rfl
      rotate_left; (exact pu_)
      refine pure_ (i := 2) (N := some 10) (v := ?_) (a' := ?_) (mk 25 7) rfl rfl (by kernel_rfl) (fun _ _ _ h => h) (Or.inl ⟨by rfl, ?_⟩) ?_ ?_
      rotate_left; (intro w'; go_simp; with_reducible rfl)
      rotate_left; (exact pu_)
      refine pure_ (i := 3) (N := some 11) (v := ?_) (a' := ?_) (mk 25 15) rfl rfl (by kernel_rfl) (fun _ _ _ h => h) (Or.inl ⟨by rfl, ?_⟩) ?_ ?_
      rotate_left; (intro w'; go_simp; with_reducible rfl)
      rotate_left; (exact pu_)
      refine pure_ (i := 4) (N := some 12) (v := ?_) (a' := ?_) (mk 25 31) rfl rfl (by kernel_rfl) (fun _ _ _ h => h) (Or.inl ⟨by rfl, ?_⟩) ?_ ?_
      rotate_left; (intro w'; go_simp; with_reducible rfl)
      rotate_left; (exact pu_)
      refine take_ (i := 5) (N := some 13) (v := ?_) (a' := ?_) (mk 25 63) rfl rfl (by kernel_rfl) (fun _ _ _ h => h) (Or.inl ⟨by rfl, ?_⟩) hHeld ?_ ?_
      rotate_left
      ·
       rintro w' ⟨s0, s1, s2, s3, s4, s5, s6, s7, s8, s9, s10, s11, s12, s13, s14, s15, s16, s17⟩
       go_simp
       with_reducible rfl
      rotate_left; (exact pu_)
      refine pure_ (i := 6) (N := some 14) (v := ?_) (a' := ?_) (mk 25 127) rfl rfl (by kernel_rfl) (fun _ _ _ h => h) (Or.inl ⟨by rfl, ?_⟩) ?_ ?_
      rotate_left; (intro w'; go_simp; with_reducible rfl)
      rotate_left; (exact pu_)
      refine pure_ (i := 7) (N := some 15) (v := ?_) (a' := ?_) (mk 25 255) rfl rfl (by kernel_rfl) (fun _ _ _ h => h) (Or.inl ⟨by rfl, ?_⟩) ?_ ?_
      rotate_left; (intro w'; go_simp; with_reducible rfl)
      rotate_left; (exact pu_)
      refine pure_ (i := 8) (N := some 16) (v := ?_) (a' := ?_) (mk 25 511) rfl rfl (by kernel_rfl) (fun _ _ _ h => h) (Or.inl ⟨by rfl, ?_⟩) ?_ ?_
      rotate_left; (intro w'; go_simp; with_reducible rfl)
      rotate_left; (exact pu_)
      refine take_ (i := 9) (N := some 17) (v := ?_) (a' := ?_) (mk 25 1023) rfl rfl (by kernel_rfl) (fun _ _ _ h => h) (Or.inl ⟨by rfl, ?_⟩) hHeld ?_ ?_
      rotate_left
      ·
       rintro w' ⟨s0, s1, s2, s3, s4, s5, s6, s7, s8, s9, s10, s11, s12, s13, s14, s15, s16, s17⟩
       go_simp
       with_reducible rfl
      rotate_left; (exact pu_)
      refine one_ (i := 10) (N := some 18) (mk 25 2047) rfl rfl (by kernel_rfl) (by decide) (fun K hK => ?_)
      refine goes_ Try.func70 (by kernel_rfl) rfl #[.agg #[.string a0_0, .int .i64 5, .int .i64 a0_2, .string a0_3, .string a0_4, .bool a0_5, .slice A0_6 l0_6.length c0_6, .slice A0_7 l0_7.length c0_7, .int .i64 a0_8, .int .i64 a0_9, .int .i64 a0_10, .int .i64 a0_11, .int .i64 a0_12, .slice A0_13 l0_13.length c0_13, .slice A0_14 l0_14.length c0_14]] (by rfl) rfl rfl am_ ?_
      refine (HC1.out _ HB4.out).mono ?_
      rintro e w5 ⟨rfl, hk5⟩
      refine ⟨_, rfl, ?_⟩
      have HB5 : Aside0 (Below wc.heap.size wc w5) := ⟨HB4.out.trans (hk5.mono HB4.out.size)⟩
      clear hk5
      refine hK.out _ _ (MK.out _ HB5.out) (fun hHeld => ?_)
      clear hK K
      refine norm_ (a' := ?_) ?_ ?_
      rotate_left; (show Act.put _ (some 18) _ = _; exact pu_)
      refine pure_ (i := 11) (N := some 19) (v := ?_) (a' := ?_) (mk 25 4095) rfl rfl (by kernel_rfl) (fun _ _ _ h => h) (Or.inl ⟨by rfl, ?_⟩) ?_ ?_
      rotate_left; (intro w'; go_simp; with_reducible rfl)
      rotate_left; (exact pu_)
      refine pure_ (i := 12) (N := some 20) (v := ?_) (a' := ?_) (mk 25 8191) rfl rfl (by kernel_rfl) (fun _ _ _ h => h) (Or.inl ⟨by rfl, ?_⟩) ?_ ?_
      rotate_left; (intro w'; go_simp; with_reducible rfl)
      rotate_left; (exact pu_)
      refine take_ (i := 13) (N := some 21) (v := ?_) (a' := ?_) (mk 25 16383) rfl rfl (by kernel_rfl) (fun _ _ _ h => h) (Or.inl ⟨by rfl, ?_⟩) hHeld ?_ ?_
      rotate_left
      ·
       rintro w' ⟨s0, s1, s2, s3, s4, s5, s6, s7, s8, s9, s10, s11, s12, s13, s14, s15, s16, s17⟩
       go_simp
       with_reducible rfl
      rotate_left; (exact pu_)
      refine one_ (i := 14) (N := some 22) (mk 25 32767) rfl rfl (by kernel_rfl) (by decide) (fun K hK => ?_)
      refine goes_ Try.func71 (by kernel_rfl) rfl #[.agg #[.string a0_0, .int .i64 5, .int .i64 a0_2, .string a0_3, .string a0_4, .bool a0_5, .slice A0_6 l0_6.length c0_6, .slice A0_7 l0_7.length c0_7, .int .i64 a0_8, .int .i64 a0_9, .int .i64 a0_10, .int .i64 a0_11, .int .i64 a0_12, .slice A0_13 l0_13.length c0_13, .slice A0_14 l0_14.length c0_14]] (by rfl) rfl rfl am_ ?_
      refine (HC2.out _ HB5.out).mono ?_
      rintro e w6 ⟨rfl, hk6⟩
      refine ⟨_, rfl, ?_⟩
      have HB6 : Aside0 (Below wc.heap.size wc w6) := ⟨HB5.out.trans (hk6.mono HB5.out.size)⟩
      clear hk6
      refine hK.out _ _ (MK.out _ HB6.out) (fun hHeld => ?_)
      clear hK K
      refine norm_ (a' := ?_) ?_ ?_
      rotate_left; (show Act.put _ (some 22) _ = _; exact pu_)
      refine pure_ (i := 15) (N := some 23) (v := ?_) (a' := ?_) (mk 25 65535) rfl rfl (by kernel_rfl) (fun _ _ _ h => h) (Or.inl ⟨by rfl, ?_⟩) ?_ ?_
      rotate_left; (intro w'; go_simp; with_reducible rfl)
      rotate_left; (exact pu_)
      refine pure_ (i := 16) (N := some 24) (v := ?_) (a' := ?_) (mk 25 131071) rfl rfl (by kernel_rfl) (fun _ _ _ h => h) (Or.inl ⟨by rfl, ?_⟩) ?_ ?_
      rotate_left; (intro w'; go_simp; with_reducible rfl)
      rotate_left; (exact pu_)
      refine pure_ (i := 17) (N := some 25) (v := ?_) (a' := ?_) (mk 25 262143) rfl rfl (by kernel_rfl) (fun _ _ _ h => h) (Or.inl ⟨by rfl, ?_⟩) ?_ ?_
      rotate_left; (intro w'; go_simp; with_reducible rfl)
      rotate_left; (exact pu_)
      refine take_ (i := 18) (N := some 26) (v := ?_) (a' := ?_) (mk 25 524287) rfl rfl (by kernel_rfl) (fun _ _ _ h => h) (Or.inl ⟨by rfl, ?_⟩) hHeld ?_ ?_
      rotate_left
      ·
       rintro w' ⟨s0, s1, s2, s3, s4, s5, s6, s7, s8, s9, s10, s11, s12, s13, s14, s15, s16, s17⟩
       go_simp
       with_reducible rfl
      rotate_left; (exact pu_)
      refine pure_ (i := 19) (N := some 27) (v := ?_) (a' := ?_) (mk 25 1048575) rfl rfl (by kernel_rfl) (fun _ _ _ h => h) (Or.inl ⟨by rfl, ?_⟩) ?_ ?_
      rotate_left; (intro w'; go_simp; with_reducible rfl)
      rotate_left; (exact pu_)
      refine take_ (i := 20) (N := some 28) (v := ?_) (a' := ?_) (mk 25 2097151) rfl rfl (by kernel_rfl) (fun _ _ _ h => h) (Or.inl ⟨by rfl, ?_⟩) hHeld ?_ ?_
      rotate_left
      ·
       rintro w' ⟨s0, s1, s2, s3, s4, s5, s6, s7, s8, s9, s10, s11, s12, s13, s14, s15, s16, s17⟩
       go_simp
       with_reducible rfl
      rotate_left; (exact pu_)
      refine take_ (i := 21) (N := some 29) (v := ?_) (a' := ?_) (mk 25 4194303) rfl rfl (by kernel_rfl) (fun _ _ _ h => h) (Or.inl ⟨by rfl, ?_⟩) hHeld ?_ ?_
      rotate_left
      ·
       rintro w' ⟨s0, s1, s2, s3, s4, s5, s6, s7, s8, s9, s10, s11, s12, s13, s14, s15, s16, s17⟩
       go_simp
       with_reducible rfl
      rotate_left; (exact pu_)
      refine one_ (i := 22) (N := some 30) (mk 25 8388607) rfl rfl (by kernel_rfl) (by decide) (fun K hK => ?_)
      refine HF.goesv_ 28 Try.func69 (by kernel_rfl) rfl #[.agg #[.string a0_0, .int .i64 5, .int .i64 a0_2, .string a0_3, .string a0_4, .bool a0_5, .slice A0_6 l0_6.length c0_6, .slice A0_7 l0_7.length c0_7, .int .i64 a0_8, .int .i64 a0_9, .int .i64 a0_10, .int .i64 a0_11, .int .i64 a0_12, .slice A0_13 l0_13.length c0_13, .slice A0_14 l0_14.length c0_14]] (by rfl) rfl rfl rfl am_ ?_
      refine (HC3.out _ HB6.out).mono ?_
      rintro e w7 ⟨rfl, hk7⟩
      refine ⟨_, rfl, ?_⟩
      have HB7 : Aside0 (Below wc.heap.size wc w7) := ⟨HB6.out.trans (hk7.mono HB6.out.size)⟩
      clear hk7
      refine hK.out _ _ (MK.out _ HB7.out) (fun hHeld => ?_)
      clear hK K
      refine norm_ (a' := ?_) ?_ ?_
      rotate_left; (show Act.put _ (some 30) _ = _; exact pu_)
      refine pure_ (i := 23) (N := some 31) (v := ?_) (a' := ?_) (mk 25 16777215) rfl rfl (by kernel_rfl) (fun _ _ _ h => h) (Or.inl ⟨by rfl, ?_⟩) ?_ ?_
      rotate_left; (intro w'; go_simp; with_reducible rfl)
      rotate_left; (exact pu_)
      refine pure_ (i := 24) (N := some 2) (v := ?_) (a' := ?_) (mk 25 33554431) rfl rfl (by kernel_rfl) (fun _ _ _ h => h) (Or.inl ⟨by rfl, ?_⟩) ?_ ?_
      rotate_left; (intro w'; go_simp; with_reducible rfl)
      rotate_left; (exact pu_)
      refine done_ (by kernel_rfl) ?_
      go_wp2
      go_ret
      exact ⟨by rw [HO.out] <;> rfl, HW.out _ HB7.out⟩
  · clear hk1' hk2'
    obtain ⟨BK, hBK⟩ : ∃ b, tiersOk l0_14 = b := ⟨_, rfl⟩
    have HO : Aside0 (BO = BK) := ⟨by rw [HRO.out, ← hBK]; simp [kindOk]⟩
    have HC3 : Aside0 (∀ W, Below wc.heap.size wc W → Calls Try.prog 69 #[.agg #[.string a0_0, .int .i64 6, .int .i64 a0_2, .string a0_3, .string a0_4, .bool a0_5, .slice A0_6 l0_6.length c0_6, .slice A0_7 l0_7.length c0_7, .int .i64 a0_8, .int .i64 a0_9, .int .i64 a0_10, .int .i64 a0_11, .int .i64 a0_12, .slice A0_13 l0_13.length c0_13, .slice A0_14 l0_14.length c0_14]] W fun e w' => e = .returned (.bool BK) ∧ Below W.heap.size W w') := ⟨fun W hW => by rw [← hBK]; exact tiers_at a0_0 6 a0_2 a0_3 a0_4 a0_5 A0_6 c0_6 l0_6 A0_7 c0_7 l0_7 a0_8 a0_9 a0_10 a0_11 a0_12 A0_13 c0_13 l0_13 A0_14 c0_14 l0_14 W (Kd.C_below HR6.out (HW.out _ hW)) HC6.out (Kd.C_below HR7.out (HW.out _ hW)) HC7.out (Kd.C_below HR13.out (HW.out _ hW)) HC13.out (Kd.C_below HR14.out (HW.out _ hW)) HC14.out⟩
    clear hBK
    have MK : Aside0 (∀ w', Below wc.heap.size wc w' → w'.cell? ⟨w.heap.size, 1, none⟩ = some (.int .i64 6) ∧ w'.cell? ⟨g, 0, none⟩ = some (.string a0_0) ∧ w'.cell? ⟨g, 1, none⟩ = some (.int .i64 6) ∧ w'.cell? ⟨g, 2, none⟩ = some (.int .i64 a0_2) ∧ w'.cell? ⟨g, 3, none⟩ = some (.string a0_3) ∧ w'.cell? ⟨g, 4, none⟩ = some (.string a0_4) ∧ w'.cell? ⟨g, 5, none⟩ = some (.bool a0_5) ∧ w'.cell? ⟨g, 6, none⟩ = some (.slice A0_6 l0_6.length c0_6) ∧ w'.cell? ⟨g, 7, none⟩ = some (.slice A0_7 l0_7.length c0_7) ∧ w'.cell? ⟨g, 8, none⟩ = some (.int .i64 a0_8) ∧ w'.cell? ⟨g, 9, none⟩ = some (.int .i64 a0_9) ∧ w'.cell? ⟨g, 10, none⟩ = some (.int .i64 a0_10) ∧ w'.cell? ⟨g, 11, none⟩ = some (.int .i64 a0_11) ∧ w'.cell? ⟨g, 12, none⟩ = some (.int .i64 a0_12) ∧ w'.cell? ⟨g, 13, none⟩ = some (.slice A0_13 l0_13.length c0_13) ∧ w'.cell? ⟨g, 14, none⟩ = some (.slice A0_14 l0_14.length c0_14) ∧ w'.cell? ⟨w.heap.size + 1, 6, none⟩ = some (.func (.func 69) #[] #[]) ∧ Aside0 (Below wc.heap.size wc w')) := ⟨fun w' h => ⟨cells_ HX2.out h 1 _ rfl, cells_ HZ2.out h 0 _ rfl, cells_ HZ2.out h 1 _ rfl, cells_ HZ2.out h 2 _ rfl, cells_ HZ2.out h 3 _ rfl, cells_ HZ2.out h 4 _ rfl, cells_ HZ2.out h 5 _ rfl, cells_ HZ2.out h 6 _ rfl, cells_ HZ2.out h 7 _ rfl, cells_ HZ2.out h 8 _ rfl, cells_ HZ2.out h 9 _ rfl, cells_ HZ2.out h 10 _ rfl, cells_ HZ2.out h 11 _ rfl, cells_ HZ2.out h 12 _ rfl, cells_ HZ2.out h 13 _ rfl, cells_ HZ2.out h 14 _ rfl, cells_ HY2.out h 6 _ rfl, ⟨h⟩⟩⟩
    have mf : wc.cell? ⟨w.heap.size + 1, 6, none⟩ = some (.func (.func 69) #[] #[]) := (blk_cell HY2.out 6).trans rfl
    go_upto_region 3 with (fail)
    as_aux_lemma =>
      refine start_ (n := 25) (S := (fun w' : World => w'.cell? ⟨w.heap.size, 1, none⟩ = some (.int .i64 6) ∧ w'.cell? ⟨g, 0, none⟩ = some (.string a0_0) ∧ w'.cell? ⟨g, 1, none⟩ = some (.int .i64 6) ∧ w'.cell? ⟨g, 2, none⟩ = some (.int .i64 a0_2) ∧ w'.cell? ⟨g, 3, none⟩ = some (.string a0_3) ∧ w'.cell? ⟨g, 4, none⟩ = some (.string a0_4) ∧ w'.cell? ⟨g, 5, none⟩ = some (.bool a0_5) ∧ w'.cell? ⟨g, 6, none⟩ = some (.slice A0_6 l0_6.length c0_6) ∧ w'.cell? ⟨g, 7, none⟩ = some (.slice A0_7 l0_7.length c0_7) ∧ w'.cell? ⟨g, 8, none⟩ = some (.int .i64 a0_8) ∧ w'.cell? ⟨g, 9, none⟩ = some (.int .i64 a0_9) ∧ w'.cell? ⟨g, 10, none⟩ = some (.int .i64 a0_10) ∧ w'.cell? ⟨g, 11, none⟩ = some (.int .i64 a0_11) ∧ w'.cell? ⟨g, 12, none⟩ = some (.int .i64 a0_12) ∧ w'.cell? ⟨g, 13, none⟩ = some (.slice A0_13 l0_13.length c0_13) ∧ w'.cell? ⟨g, 14, none⟩ = some (.slice A0_14 l0_14.length c0_14) ∧ w'.cell? ⟨w.heap.size + 1, 6, none⟩ = some (.func (.func 69) #[] #[]) ∧ Aside0 (Below wc.heap.size wc w'))) (ds := []) (mk 25 0) (by kernel_rfl) rfl rfl (MK.out _ (bel_drew _)) (fun hHeld => ?_)
      have HB4 : Aside0 (Below wc.heap.size wc wc.drew) := ⟨bel_drew _⟩
      generalize wc.drew = w4 at HB4 hHeld ⊢
      refine pure_ (i := 0) (N := some 8) (v := ?_) (a' := ?_) (mk 25 1) rfl rfl (by kernel_rfl) (fun _ _ _ h => h) (Or.inl ⟨by rfl, ?_⟩) ?_ ?_
      rotate_left; (intro w'; go_simp; with_reducible rfl)
      rotate_left; (exact pu_)
      refine take_ (i := 1) (N := some 9) (v := ?_) (a' := ?_) (mk 25 3) rfl rfl (by kernel_rfl) (fun _ _ _ h => h) (Or.inl ⟨by rfl, ?_⟩) hHeld ?_ ?_
      rotate_left
      ·
       rintro w' ⟨s0, s1, s2, s3, s4, s5, s6, s7, s8, s9, s10, s11, s12, s13, s14, s15, s16, s17⟩
       go_simp
       with_reducible rfl
      rotate_left; (exact pu_)
      refine pure_ (i := 2) (N := some 10) (v := ?_) (a' := ?_) (mk 25 7) rfl rfl (by kernel_rfl) (fun _ _ _ h => h) (Or.inl ⟨by rfl, ?_⟩) ?_ ?_
      rotate_left; (intro w'; go_simp; with_reducible rfl)
      rotate_left; (exact pu_)
      refine pure_ (i := 3) (N := some 11) (v := ?_) (a' := ?_) (mk 25 15) rfl rfl (by kernel_rfl) (fun _ _ _ h => h) (Or.inl ⟨by rfl, ?_⟩) ?_ ?_
      rotate_left; (intro w'; go_simp; with_reducible rfl)
      rotate_left; (exact pu_)
      refine pure_ (i := 4) (N := some 12) (v := ?_) (a' := ?_) (mk 25 31) rfl rfl (by kernel_rfl) (fun _ _ _ h => h) (Or.inl ⟨by rfl, ?_⟩) ?_ ?_
      rotate_left; (intro w'; go_simp; with_reducible rfl)
      rotate_left; (exact pu_)
      refine take_ (i := 5) (N := some 13) (v := ?_) (a' := ?_) (mk 25 63) rfl rfl (by kernel_rfl) (fun _ _ _ h => h) (Or.inl ⟨by rfl, ?_⟩) hHeld ?_ ?_
      rotate_left
      ·
       rintro w' ⟨s0, s1, s2, s3, s4, s5, s6, s7, s8, s9, s10, s11, s12, s13, s14, s15, s16, s17⟩
       go_simp
       with_reducible rfl
      rotate_left; (exact pu_)
      refine pure_ (i := 6) (N := some 14) (v := ?_) (a' := ?_) (mk 25 127) rfl rfl (by kernel_rfl) (fun _ _ _ h => h) (Or.inl ⟨by rfl, ?_⟩) ?_ ?_
      rotate_left; (intro w'; go_simp; with_reducible rfl)
      rotate_left; (exact pu_)
      refine pure_ (i := 7) (N := some 15) (v := ?_) (a' := ?_) (mk 25 255) rfl rfl (by kernel_rfl) (fun _ _ _ h => h) (Or.inl ⟨by rfl, ?_⟩) ?_ ?_
      rotate_left; (intro w'; go_simp; with_reducible rfl)
      rotate_left; (exact pu_)
      refine pure_ (i := 8) (N := some 16) (v := ?_) (a' := ?_) (mk 25 511) rfl rfl (by kernel_rfl) (fun _ _ _ h => h) (Or.inl ⟨by rfl, ?_⟩) ?_ ?_
      rotate_left; (intro w'; go_simp; with_reducible rfl)
      rotate_left; (exact pu_)
      refine take_ (i := 9) (N := some 17) (v := ?_) (a' := ?_) (mk 25 1023) rfl rfl (by kernel_rfl) (fun _ _ _ h => h) (Or.inl ⟨by rfl, ?_⟩) hHeld ?_ ?_
      rotate_left
      ·
       rintro w' ⟨s0, s1, s2, s3, s4, s5, s6, s7, s8, s9, s10, s11, s12, s13, s14, s15, s16, s17⟩
       go_simp
       with_reducible rfl
      rotate_left; (exact pu_)
      refine one_ (i := 10) (N := some 18) (mk 25 2047) rfl rfl (by kernel_rfl) (by decide) (fun K hK => ?_)
      refine goes_ Try.func70 (by kernel_rfl) rfl #[.agg #[.string a0_0, .int .i64 6, .int .i64 a0_2, .string a0_3, .string a0_4, .bool a0_5, .slice A0_6 l0_6.length c0_6, .slice A0_7 l0_7.length c0_7, .int .i64 a0_8, .int .i64 a0_9, .int .i64 a0_10, .int .i64 a0_11, .int .i64 a0_12, .slice A0_13 l0_13.length c0_13, .slice A0_14 l0_14.length c0_14]] (by rfl) rfl rfl am_ ?_
      refine (HC1.out _ HB4.out).mono ?_
      rintro e w5 ⟨rfl, hk5⟩
      refine ⟨_, rfl, ?_⟩
      have HB5 : Aside0 (Below wc.heap.size wc w5) := ⟨HB4.out.trans (hk5.mono HB4.out.size)⟩
      clear hk5
      refine hK.out _ _ (MK.out _ HB5.out) (fun hHeld => ?_)
      clear hK K
      refine norm_ (a' := ?_) ?_ ?_
      rotate_left; (show Act.put _ (some 18) _ = _; exact pu_)
      refine pure_ (i := 11) (N := some 19) (v := ?_) (a' := ?_) (mk 25 4095) rfl rfl (by kernel_rfl) (fun _ _ _ h => h) (Or.inl ⟨by rfl, ?_⟩) ?_ ?_
      rotate_left; (intro w'; go_simp; with_reducible rfl)
      rotate_left; (exact pu_)
      refine pure_ (i := 12) (N := some 20) (v := ?_) (a' := ?_) (mk 25 8191) rfl rfl (by kernel_rfl) (fun _ _ _ h => h) (Or.inl ⟨by rfl, ?_⟩) ?_ ?_
      rotate_left; (intro w'; go_simp; with_reducible rfl)
      rotate_left; (exact pu_)
      refine take_ (i := 13) (N := some 21) (v := ?_) (a' := ?_) (mk 25 16383) rfl rfl (by kernel_rfl) (fun _ _ _ h => h) (Or.inl ⟨by rfl, ?_⟩) hHeld ?_ ?_
      rotate_left
      ·
       rintro w' ⟨s0, s1, s2, s3, s4, s5, s6, s7, s8, s9, s10, s11, s12, s13, s14, s15, s16, s17⟩
       go_simp
       with_reducible rfl
      rotate_left; (exact pu_)
      refine one_ (i := 14) (N := some 22) (mk 25 32767) rfl rfl (by kernel_rfl) (by decide) (fun K hK => ?_)
      refine goes_ Try.func71 (by kernel_rfl) rfl #[.agg #[.string a0_0, .int .i64 6, .int .i64 a0_2, .string a0_3, .string a0_4, .bool a0_5, .slice A0_6 l0_6.length c0_6, .slice A0_7 l0_7.length c0_7, .int .i64 a0_8, .int .i64 a0_9, .int .i64 a0_10, .int .i64 a0_11, .int .i64 a0_12, .slice A0_13 l0_13.length c0_13, .slice A0_14 l0_14.length c0_14]] (by rfl) rfl rfl am_ ?_
      refine (HC2.out _ HB5.out).mono ?_
      rintro e w6 ⟨rfl, hk6⟩
      refine ⟨_, rfl, ?_⟩
      have HB6 : Aside0 (Below wc.heap.size wc w6) := ⟨HB5.out.trans (hk6.mono HB5.out.size)⟩
      clear hk6
      refine hK.out _ _ (MK.out _ HB6.out) (fun hHeld => ?_)
      clear hK K
      refine norm_ (a' := ?_) ?_ ?_
      rotate_left; (show Act.put _ (some 22) _ = _; exact pu_)
      refine pure_ (i := 15) (N := some 23) (v := ?_) (a' := ?_) (mk 25 65535) rfl rfl (by kernel_rfl) (fun _ _ _ h => h) (Or.inl ⟨by rfl, ?_⟩) ?_ ?_
      rotate_left; (intro w'; go_simp; with_reducible rfl)
      rotate_left; (exact pu_)
      refine pure_ (i := 16) (N := some 24) (v := ?_) (a' := ?_) (mk 25 131071) rfl rfl (by kernel_rfl) (fun _ _ _ h => h) (Or.inl ⟨by rfl, ?_⟩) ?_ ?_
      rotate_left; (intro w'; go_simp; with_reducible rfl)
      rotate_left; (exact pu_)
      refine pure_ (i := 17) (N := some 25) (v := ?_) (a' := ?_) (mk 25 262143) rfl rfl (by kernel_rfl) (fun _ _ _ h => h) (Or.inl ⟨by rfl, ?_⟩) ?_ ?_
      rotate_left; (intro w'; go_simp; with_reducible rfl)
      rotate_left; (exact pu_)
      refine take_ (i := 18) (N := some 26) (v := ?_) (a' := ?_) (mk 25 524287) rfl rfl (by kernel_rfl) (fun _ _ _ h => h) (Or.inl ⟨by rfl, ?_⟩) hHeld ?_ ?_
      rotate_left
      ·
       rintro w' ⟨s0, s1, s2, s3, s4, s5, s6, s7, s8, s9, s10, s11, s12, s13, s14, s15, s16, s17⟩
       go_simp
       with_reducible rfl
      rotate_left; (exact pu_)
      refine pure_ (i := 19) (N := some 27) (v := ?_) (a' := ?_) (mk 25 1048575) rfl rfl (by kernel_rfl) (fun _ _ _ h => h) (Or.inl ⟨by rfl, ?_⟩) ?_ ?_
      rotate_left; (intro w'; go_simp; with_reducible rfl)
      rotate_left; (exact pu_)
      refine take_ (i := 20) (N := some 28) (v := ?_) (a' := ?_) (mk 25 2097151) rfl rfl (by kernel_rfl) (fun _ _ _ h => h) (Or.inl ⟨by rfl, ?_⟩) hHeld ?_ ?_
      rotate_left
      ·
       rintro w' ⟨s0, s1, s2, s3, s4, s5, s6, s7, s8, s9, s10, s11, s12, s13, s14, s15, s16, s17⟩
       go_simp
       with_reducible rfl
      rotate_left; (exact pu_)
      refine take_ (i := 21) (N := some 29) (v := ?_) (a' := ?_) (mk 25 4194303) rfl rfl (by kernel_rfl) (fun _ _ _ h => h) (Or.inl ⟨by rfl, ?_⟩) hHeld ?_ ?_
      rotate_left
      ·
       rintro w' ⟨s0, s1, s2, s3, s4, s5, s6, s7, s8, s9, s10, s11, s12, s13, s14, s15, s16, s17⟩
       go_simp
       with_reducible rfl
      rotate_left; (exact pu_)
      refine one_ (i := 22) (N := some 30) (mk 25 8388607) rfl rfl (by kernel_rfl) (by decide) (fun K hK => ?_)
      refine HF.goesv_ 28 Try.func69 (by kernel_rfl) rfl #[.agg #[.string a0_0, .int .i64 6, .int .i64 a0_2, .string a0_3, .string a0_4, .bool a0_5, .slice A0_6 l0_6.length c0_6, .slice A0_7 l0_7.length c0_7, .int .i64 a0_8, .int .i64 a0_9, .int .i64 a0_10, .int .i64 a0_11, .int .i64 a0_12, .slice A0_13 l0_13.length c0_13, .slice A0_14 l0_14.length c0_14]] (by rfl) rfl rfl rfl am_ ?_
      refine (HC3.out _ HB6.out).mono ?_
      rintro e w7 ⟨rfl, hk7⟩
      refine ⟨_, rfl, ?_⟩
      have HB7 : Aside0 (Below wc.heap.size wc w7) := ⟨HB6.out.trans (hk7.mono HB6.out.size)⟩
      clear hk7
      refine hK.out _ _ (MK.out _ HB7.out) (fun hHeld => ?_)
      clear hK K
      refine norm_ (a' := ?_) ?_ ?_
      rotate_left; (show Act.put _ (some 30) _ = _; exact pu_)
      refine pure_ (i := 23) (N := some 31) (v := ?_) (a' := ?_) (mk 25 16777215) rfl rfl (by kernel_rfl) (fun _ _ _ h => h) (Or.inl ⟨by rfl, ?_⟩) ?_ ?_
      rotate_left; (intro w'; go_simp; with_reducible rfl)
      rotate_left; (exact pu_)
      refine pure_ (i := 24) (N := some 2) (v := ?_) (a' := ?_) (mk 25 33554431) rfl rfl (by kernel_rfl) (fun _ _ _ h => h) (Or.inl ⟨by rfl, ?_⟩) ?_ ?_
      rotate_left; (intro w'; go_simp; with_reducible rfl)
      rotate_left; (exact pu_)
      refine done_ (by kernel_rfl) ?_
      go_wp2
      go_ret
      exact ⟨by rw [HO.out] <;> rfl, HW.out _ HB7.out⟩
  · clear hk1' hk2'
    obtain ⟨BK, hBK⟩ : ∃ b, rateOk a0_9 = b := ⟨_, rfl⟩
    have HO : Aside0 (BO = BK) := ⟨by rw [HRO.out, ← hBK]; simp [kindOk]⟩
    have HC3 : Aside0 (∀ W, Below wc.heap.size wc W → Calls Try.prog 65 #[.agg #[.string a0_0, .int .i64 7, .int .i64 a0_2, .string a0_3, .string a0_4, .bool a0_5, .slice A0_6 l0_6.length c0_6, .slice A0_7 l0_7.length c0_7, .int .i64 a0_8, .int .i64 a0_9, .int .i64 a0_10, .int .i64 a0_11, .int .i64 a0_12, .slice A0_13 l0_13.length c0_13, .slice A0_14 l0_14.length c0_14]] W fun e w' => e = .returned (.bool BK) ∧ Below W.heap.size W w') := ⟨fun W hW => by rw [← hBK]; exact rate_at a0_0 7 a0_2 a0_3 a0_4 a0_5 A0_6 c0_6 l0_6 A0_7 c0_7 l0_7 a0_8 a0_9 a0_10 a0_11 a0_12 A0_13 c0_13 l0_13 A0_14 c0_14 l0_14 W (Kd.C_below HR6.out (HW.out _ hW)) HC6.out (Kd.C_below HR7.out (HW.out _ hW)) HC7.out (Kd.C_below HR13.out (HW.out _ hW)) HC13.out (Kd.C_below HR14.out (HW.out _ hW)) HC14.out⟩
    clear hBK
    have MK : Aside0 (∀ w', Below wc.heap.size wc w' → w'.cell? ⟨w.heap.size, 1, none⟩ = some (.int .i64 7) ∧ w'.cell? ⟨g, 0, none⟩ = some (.string a0_0) ∧ w'.cell? ⟨g, 1, none⟩ = some (.int .i64 7) ∧ w'.cell? ⟨g, 2, none⟩ = some (.int .i64 a0_2) ∧ w'.cell? ⟨g, 3, none⟩ = some (.string a0_3) ∧ w'.cell? ⟨g, 4, none⟩ = some (.string a0_4) ∧ w'.cell? ⟨g, 5, none⟩ = some (.bool a0_5) ∧ w'.cell? ⟨g, 6, none⟩ = some (.slice A0_6 l0_6.length c0_6) ∧ w'.cell? ⟨g, 7, none⟩ = some (.slice A0_7 l0_7.length c0_7) ∧ w'.cell? ⟨g, 8, none⟩ = some (.int .i64 a0_8) ∧ w'.cell? ⟨g, 9, none⟩ = some (.int .i64 a0_9) ∧ w'.cell? ⟨g, 10, none⟩ = some (.int .i64 a0_10) ∧ w'.cell? ⟨g, 11, none⟩ = some (.int .i64 a0_11) ∧ w'.cell? ⟨g, 12, none⟩ = some (.int .i64 a0_12) ∧ w'.cell? ⟨g, 13, none⟩ = some (.slice A0_13 l0_13.length c0_13) ∧ w'.cell? ⟨g, 14, none⟩ = some (.slice A0_14 l0_14.length c0_14) ∧ w'.cell? ⟨w.heap.size + 1, 7, none⟩ = some (.func (.func 65) #[] #[]) ∧ Aside0 (Below wc.heap.size wc w')) := ⟨fun w' h => ⟨cells_ HX2.out h 1 _ rfl, cells_ HZ2.out h 0 _ rfl, cells_ HZ2.out h 1 _ rfl, cells_ HZ2.out h 2 _ rfl, cells_ HZ2.out h 3 _ rfl, cells_ HZ2.out h 4 _ rfl, cells_ HZ2.out h 5 _ rfl, cells_ HZ2.out h 6 _ rfl, cells_ HZ2.out h 7 _ rfl, cells_ HZ2.out h 8 _ rfl, cells_ HZ2.out h 9 _ rfl, cells_ HZ2.out h 10 _ rfl, cells_ HZ2.out h 11 _ rfl, cells_ HZ2.out h 12 _ rfl, cells_ HZ2.out h 13 _ rfl, cells_ HZ2.out h 14 _ rfl, cells_ HY2.out h 7 _ rfl, ⟨h⟩⟩⟩
    have mf : wc.cell? ⟨w.heap.size + 1, 7, none⟩ = some (.func (.func 65) #[] #[]) := (blk_cell HY2.out 7).trans rfl
    go_upto_region 3 with (fail)
    as_aux_lemma =>
      refine start_ (n := 25) (S := (fun w' : World => w'.cell? ⟨w.heap.size, 1, none⟩ = some (.int .i64 7) ∧ w'.cell? ⟨g, 0, none⟩ = some (.string a0_0) ∧ w'.cell? ⟨g, 1, none⟩ = some (.int .i64 7) ∧ w'.cell? ⟨g, 2, none⟩ = some (.int .i64 a0_2) ∧ w'.cell? ⟨g, 3, none⟩ = some (.string a0_3) ∧ w'.cell? ⟨g, 4, none⟩ = some (.string a0_4) ∧ w'.cell? ⟨g, 5, none⟩ = some (.bool a0_5) ∧ w'.cell? ⟨g, 6, none⟩ = some (.slice A0_6 l0_6.length c0_6) ∧ w'.cell? ⟨g, 7, none⟩ = some (.slice A0_7 l0_7.length c0_7) ∧ w'.cell? ⟨g, 8, none⟩ = some (.int .i64 a0_8) ∧ w'.cell? ⟨g, 9, none⟩ = some (.int .i64 a0_9) ∧ w'.cell? ⟨g, 10, none⟩ = some (.int .i64 a0_10) ∧ w'.cell? ⟨g, 11, none⟩ = some (.int .i64 a0_11) ∧ w'.cell? ⟨g, 12, none⟩ = some (.int .i64 a0_12) ∧ w'.cell? ⟨g, 13, none⟩ = some (.slice A0_13 l0_13.length c0_13) ∧ w'.cell? ⟨g, 14, none⟩ = some (.slice A0_14 l0_14.length c0_14) ∧ w'.cell? ⟨w.heap.size + 1, 7, none⟩ = some (.func (.func 65) #[] #[]) ∧ Aside0 (Below wc.heap.size wc w'))) (ds := []) (mk 25 0) (by kernel_rfl) rfl rfl (MK.out _ (bel_drew _)) (fun hHeld => ?_)
      have HB4 : Aside0 (Below wc.heap.size wc wc.drew) := ⟨bel_drew _⟩
      generalize wc.drew = w4 at HB4 hHeld ⊢
      refine pure_ (i := 0) (N := some 8) (v := ?_) (a' := ?_) (mk 25 1) rfl rfl (by kernel_rfl) (fun _ _ _ h => h) (Or.inl ⟨by rfl, ?_⟩) ?_ ?_
      rotate_left; (intro w'; go_simp; with_reducible rfl)
      rotate_left; (exact pu_)
      refine take_ (i := 1) (N := some 9) (v := ?_) (a' := ?_) (mk 25 3) rfl rfl (by kernel_rfl) (fun _ _ _ h => h) (Or.inl ⟨by rfl, ?_⟩) hHeld ?_ ?_
      rotate_left
      ·
       rintro w' ⟨s0, s1, s2, s3, s4, s5, s6, s7, s8, s9, s10, s11, s12, s13, s14, s15, s16, s17⟩
       go_simp
       with_reducible rfl
      rotate_left; (exact pu_)
      refine pure_ (i := 2) (N := some 10) (v := ?_) (a' := ?_) (mk 25 7) rfl rfl (by kernel_rfl) (fun _ _ _ h => h) (Or.inl ⟨by rfl, ?_⟩) ?_ ?_
      rotate_left; (intro w'; go_simp; with_reducible rfl)
      rotate_left; (exact pu_)
      refine pure_ (i := 3) (N := some 11) (v := ?_) (a' := ?_) (mk 25 15) rfl rfl (by kernel_rfl) (fun _ _ _ h => h) (Or.inl ⟨by rfl, ?_⟩) ?_ ?_
      rotate_left; (intro w'; go_simp; with_reducible rfl)
      rotate_left; (exact pu_)
      refine pure_ (i := 4) (N := some 12) (v := ?_) (a' := ?_) (mk 25 31) rfl rfl (by kernel_rfl) (fun _ _ _ h => h) (Or.inl ⟨by rfl, ?_⟩) ?_ ?_
      rotate_left; (intro w'; go_simp; with_reducible rfl)
      rotate_left; (exact pu_)
      refine take_ (i := 5) (N := some 13) (v := ?_) (a' := ?_) (mk 25 63) rfl rfl (by kernel_rfl) (fun _ _ _ h => h) (Or.inl ⟨by rfl, ?_⟩) hHeld ?_ ?_
      rotate_left
      ·
       rintro w' ⟨s0, s1, s2, s3, s4, s5, s6, s7, s8, s9, s10, s11, s12, s13, s14, s15, s16, s17⟩
       go_simp
       with_reducible rfl
      rotate_left; (exact pu_)
      refine pure_ (i := 6) (N := some 14) (v := ?_) (a' := ?_) (mk 25 127) rfl rfl (by kernel_rfl) (fun _ _ _ h => h) (Or.inl ⟨by rfl, ?_⟩) ?_ ?_
      rotate_left; (intro w'; go_simp; with_reducible rfl)
      rotate_left; (exact pu_)
      refine pure_ (i := 7) (N := some 15) (v := ?_) (a' := ?_) (mk 25 255) rfl rfl (by kernel_rfl) (fun _ _ _ h => h) (Or.inl ⟨by rfl, ?_⟩) ?_ ?_
      rotate_left; (intro w'; go_simp; with_reducible rfl)
      rotate_left; (exact pu_)
      refine pure_ (i := 8) (N := some 16) (v := ?_) (a' := ?_) (mk 25 511) rfl rfl (by kernel_rfl) (fun _ _ _ h => h) (Or.inl ⟨by rfl, ?_⟩) ?_ ?_
      rotate_left; (intro w'; go_simp; with_reducible rfl)
      rotate_left; (exact pu_)
      refine take_ (i := 9) (N := some 17) (v := ?_) (a' := ?_) (mk 25 1023) rfl rfl (by kernel_rfl) (fun _ _ _ h => h) (Or.inl ⟨by rfl, ?_⟩) hHeld ?_ ?_
      rotate_left
      ·
       rintro w' ⟨s0, s1, s2, s3, s4, s5, s6, s7, s8, s9, s10, s11, s12, s13, s14, s15, s16, s17⟩
       go_simp
       with_reducible rfl
      rotate_left; (exact pu_)
      refine one_ (i := 10) (N := some 18) (mk 25 2047) rfl rfl (by kernel_rfl) (by decide) (fun K hK => ?_)
      refine goes_ Try.func70 (by kernel_rfl) rfl #[.agg #[.string a0_0, .int .i64 7, .int .i64 a0_2, .string a0_3, .string a0_4, .bool a0_5, .slice A0_6 l0_6.length c0_6, .slice A0_7 l0_7.length c0_7, .int .i64 a0_8, .int .i64 a0_9, .int .i64 a0_10, .int .i64 a0_11, .int .i64 a0_12, .slice A0_13 l0_13.length c0_13, .slice A0_14 l0_14.length c0_14]] (by rfl) rfl rfl am_ ?_
      refine (HC1.out _ HB4.out).mono ?_
      rintro e w5 ⟨rfl, hk5⟩
      refine ⟨_, rfl, ?_⟩
      have HB5 : Aside0 (Below wc.heap.size wc w5) := ⟨HB4.out.trans (hk5.mono HB4.out.size)⟩
      clear hk5
      refine hK.out _ _ (MK.out _ HB5.out) (fun hHeld => ?_)
      clear hK K
      refine norm_ (a' := ?_) ?_ ?_
      rotate_left; (show Act.put _ (some 18) _ = _; exact pu_)
      refine pure_ (i := 11) (N := some 19) (v := ?_) (a' := ?_) (mk 25 4095) rfl rfl (by kernel_rfl) (fun _ _ _ h => h) (Or.inl ⟨by rfl, ?_⟩) ?_ ?_
      rotate_left; (intro w'; go_simp; with_reducible rfl)
      rotate_left; (exact pu_)
      refine pure_ (i := 12) (N := some 20) (v := ?_) (a' := ?_) (mk 25 8191) rfl rfl (by kernel_rfl) (fun _ _ _ h => h) (Or.inl ⟨by rfl, ?_⟩) ?_ ?_
      rotate_left; (intro w'; go_simp; with_reducible rfl)
      rotate_left; (exact pu_)
      refine take_ (i := 13) (N := some 21) (v := ?_) (a' := ?_) (mk 25 16383) rfl rfl (by kernel_rfl) (fun _ _ _ h => h) (Or.inl ⟨by rfl, ?_⟩) hHeld ?_ ?_
      rotate_left
      ·
       rintro w' ⟨s0, s1, s2, s3, s4, s5, s6, s7, s8, s9, s10, s11, s12, s13, s14, s15, s16, s17⟩
       go_simp
       with_reducible rfl
      rotate_left; (exact pu_)
      refine one_ (i := 14) (N := some 22) (mk 25 32767) rfl rfl (by kernel_rfl) (by decide) (fun K hK => ?_)
      refine goes_ Try.func71 (by kernel_rfl) rfl #[.agg #[.string a0_0, .int .i64 7, .int .i64 a0_2, .string a0_3, .string a0_4, .bool a0_5, .slice A0_6 l0_6.length c0_6, .slice A0_7 l0_7.length c0_7, .int .i64 a0_8, .int .i64 a0_9, .int .i64 a0_10, .int .i64 a0_11, .int .i64 a0_12, .slice A0_13 l0_13.length c0_13, .slice A0_14 l0_14.length c0_14]] (by rfl) rfl rfl am_ ?_
      refine (HC2.out _ HB5.out).mono ?_
      rintro e w6 ⟨rfl, hk6⟩
      refine ⟨_, rfl, ?_⟩
      have HB6 : Aside0 (Below wc.heap.size wc w6) := ⟨HB5.out.trans (hk6.mono HB5.out.size)⟩
      clear hk6
      refine hK.out _ _ (MK.out _ HB6.out) (fun hHeld => ?_)
      clear hK K
      refine norm_ (a' := ?_) ?_ ?_
      rotate_left; (show Act.put _ (some 22) _ = _; exact pu_)
      refine pure_ (i := 15) (N := some 23) (v := ?_) (a' := ?_) (mk 25 65535) rfl rfl (by kernel_rfl) (fun _ _ _ h => h) (Or.inl ⟨by rfl, ?_⟩) ?_ ?_
      rotate_left; (intro w'; go_simp; with_reducible rfl)
      rotate_left; (exact pu_)
      refine pure_ (i := 16) (N := some 24) (v := ?_) (a' := ?_) (mk 25 131071) rfl rfl (by kernel_rfl) (fun _ _ _ h => h) (Or.inl ⟨by rfl, ?_⟩) ?_ ?_
      rotate_left; (intro w'; go_simp; with_reducible rfl)
      rotate_left; (exact pu_)
      refine pure_ (i := 17) (N := some 25) (v := ?_) (a' := ?_) (mk 25 262143) rfl rfl (by kernel_rfl) (fun _ _ _ h => h) (Or.inl ⟨by rfl, ?_⟩) ?_ ?_
      rotate_left; (intro w'; go_simp; with_reducible rfl)
      rotate_left; (exact pu_)
      refine take_ (i := 18) (N := some 26) (v := ?_) (a' := ?_) (mk 25 524287) rfl rfl (by kernel_rfl) (fun _ _ _ h => h) (Or.inl ⟨by rfl, ?_⟩) hHeld ?_ ?_
      rotate_left
      ·
       rintro w' ⟨s0, s1, s2, s3, s4, s5, s6, s7, s8, s9, s10, s11, s12, s13, s14, s15, s16, s17⟩
       go_simp
       with_reducible rfl
      rotate_left; (exact pu_)
      refine pure_ (i := 19) (N := some 27) (v := ?_) (a' := ?_) (mk 25 1048575) rfl rfl (by kernel_rfl) (fun _ _ _ h => h) (Or.inl ⟨by rfl, ?_⟩) ?_ ?_
      rotate_left; (intro w'; go_simp; with_reducible rfl)
      rotate_left; (exact pu_)
      refine take_ (i := 20) (N := some 28) (v := ?_) (a' := ?_) (mk 25 2097151) rfl rfl (by kernel_rfl) (fun _ _ _ h => h) (Or.inl ⟨by rfl, ?_⟩) hHeld ?_ ?_
      rotate_left
      ·
       rintro w' ⟨s0, s1, s2, s3, s4, s5, s6, s7, s8, s9, s10, s11, s12, s13, s14, s15, s16, s17⟩
       go_simp
       with_reducible rfl
      rotate_left; (exact pu_)
      refine take_ (i := 21) (N := some 29) (v := ?_) (a' := ?_) (mk 25 4194303) rfl rfl (by kernel_rfl) (fun _ _ _ h => h) (Or.inl ⟨by rfl, ?_⟩) hHeld ?_ ?_
      rotate_left
      ·
       rintro w' ⟨s0, s1, s2, s3, s4, s5, s6, s7, s8, s9, s10, s11, s12, s13, s14, s15, s16, s17⟩
       go_simp
       with_reducible rfl
      rotate_left; (exact pu_)
      refine one_ (i := 22) (N := some 30) (mk 25 8388607) rfl rfl (by kernel_rfl) (by decide) (fun K hK => ?_)
      refine HF.goesv_ 28 Try.func65 (by kernel_rfl) rfl #[.agg #[.string a0_0, .int .i64 7, .int .i64 a0_2, .string a0_3, .string a0_4, .bool a0_5, .slice A0_6 l0_6.length c0_6, .slice A0_7 l0_7.length c0_7, .int .i64 a0_8, .int .i64 a0_9, .int .i64 a0_10, .int .i64 a0_11, .int .i64 a0_12, .slice A0_13 l0_13.length c0_13, .slice A0_14 l0_14.length c0_14]] (by rfl) rfl rfl rfl am_ ?_
      refine (HC3.out _ HB6.out).mono ?_
      rintro e w7 ⟨rfl, hk7⟩
      refine ⟨_, rfl, ?_⟩
      have HB7 : Aside0 (Below wc.heap.size wc w7) := ⟨HB6.out.trans (hk7.mono HB6.out.size)⟩
      clear hk7
      refine hK.out _ _ (MK.out _ HB7.out) (fun hHeld => ?_)
      clear hK K
      refine norm_ (a' := ?_) ?_ ?_
      rotate_left; (show Act.put _ (some 30) _ = _; exact pu_)
      refine pure_ (i := 23) (N := some 31) (v := ?_) (a' := ?_) (mk 25 16777215) rfl rfl (by kernel_rfl) (fun _ _ _ h => h) (Or.inl ⟨by rfl, ?_⟩) ?_ ?_
      rotate_left; (intro w'; go_simp; with_reducible rfl)
      rotate_left; (exact pu_)
      refine pure_ (i := 24) (N := some 2) (v := ?_) (a' := ?_) (mk 25 33554431) rfl rfl (by kernel_rfl) (fun _ _ _ h => h) (Or.inl ⟨by rfl, ?_⟩) ?_ ?_
      rotate_left; (intro w'; go_simp; with_reducible rfl)
      rotate_left; (exact pu_)
      refine done_ (by kernel_rfl) ?_
      go_wp2
      go_ret
      exact ⟨by rw [HO.out] <;> rfl, HW.out _ HB7.out⟩
end Go.Proofs.Ytdmeepjefccpgaa.Rw
