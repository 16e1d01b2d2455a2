/-
  No cell of these rows narrows 'for every input' (looked for: loops, veiled, ifaces, maps, wideKeys, modest, calm, conditions, laid).
  DERIVED. THE GIVEN ROWS OF THIS SEAT. 12 by the template 'for every input the law returns true; each argument reads behind the call as it read before'; 0 by the template 'total and deterministic' (their statements: YtonpcolkmecddaaTotals.lean).
  GIVEN WITH THE SEED: the statements are not yours to turn. If you find one false, say at which input.
  Laid BY PROGRAM, IN A SANDBOX (cutbox-rows.mjs): the forced cells as the released guide's own fill.sh prints them over the translation 7ac38c8bde3de7a6… (all of the seat's roots in one cut). By AI agents, Wed Nov 11 2026. No macro, syntax, notation, axiom, sorry.
-/
import Derived.Test.YtonpcolkmecddaaChecked
import GoSem.Claim
import GoSem.ClaimJoined
import GoSem.ClaimMapViews
import Derived.JoinedTies
import Derived.KernelRfl
namespace Go.Proofs.Ytonpcolkmecddaa
/- THE CELL 'sum', in the pinned program and in every row, IS THE sha256 OF THE DUMP (.gsa) THAT YtonpcolkmecddaaProg.lean LOADS. Nothing in Lean hashes anything: it is a label: what it is worth is what the hold of that sum in a sandbox is worth. -/
noncomputable def Try.pinned : Pinned := { name := "ytonpcolkmecddaa", sum := "7ac38c8bde3de7a68c2848556117ded38b6fcf2785569f82b08f042cd3f0915b", checked := Try.checked }
namespace Rows
def none {H : Type} : Left H := { results := [], args := [] }

/-- 'haberdashlaw02.QueueOrders': WHATEVER THE INPUT: true; the input reads as it did. -/
def queueOrdersSpec : ChangeSpec := { name := "queueOrders", fn := fun _ => fun
  | [d] => { results := [.lit (.bool true)], args := [d] }
  | _ => none }
def queueOrdersRow : OpenClaim := { program := "ytonpcolkmecddaa", sum := "7ac38c8bde3de7a68c2848556117ded38b6fcf2785569f82b08f042cd3f0915b", func := "haberdash/haberdashlaw02.QueueOrders", spec := "queueOrders", unfollowed := true, recurses := true, apart := false }
def QueueOrdersSaid : Prop := queueOrdersRow.holds Try.pinned (OpenSpec.ofChange queueOrdersSpec)

/-- ITS FALSE NEIGHBOUR: 'it returns false'. Refute it at one input. -/
def queueOrdersWrong : ChangeSpec := { name := "queueOrders", fn := fun _ => fun
  | [d] => { results := [.lit (.bool false)], args := [d] }
  | _ => none }
def QueueOrdersWrongFalsely : Prop := queueOrdersRow.holds Try.pinned (OpenSpec.ofChange queueOrdersWrong)

/-- 'haberdashlaw02.QueueSorts': WHATEVER THE INPUT: true; the input reads as it did. -/
def queueSortsSpec : ChangeSpec := { name := "queueSorts", fn := fun _ => fun
  | [d1, d2] => { results := [.lit (.bool true)], args := [d1, d2] }
  | _ => none }
def queueSortsRow : OpenClaim := { program := "ytonpcolkmecddaa", sum := "7ac38c8bde3de7a68c2848556117ded38b6fcf2785569f82b08f042cd3f0915b", func := "haberdash/haberdashlaw02.QueueSorts", spec := "queueSorts", unfollowed := true, recurses := true, apart := false }
def QueueSortsSaid : Prop := queueSortsRow.holds Try.pinned (OpenSpec.ofChange queueSortsSpec)

/-- ITS FALSE NEIGHBOUR: 'it returns false'. Refute it at one input. -/
def queueSortsWrong : ChangeSpec := { name := "queueSorts", fn := fun _ => fun
  | [d1, d2] => { results := [.lit (.bool false)], args := [d1, d2] }
  | _ => none }
def QueueSortsWrongFalsely : Prop := queueSortsRow.holds Try.pinned (OpenSpec.ofChange queueSortsWrong)

/-- 'haberdashlaw02.QueueApart': WHATEVER THE INPUT: true; the input reads as it did. -/
def queueApartSpec : ChangeSpec := { name := "queueApart", fn := fun _ => fun
  | [d1, d2] => { results := [.lit (.bool true)], args := [d1, d2] }
  | _ => none }
def queueApartRow : OpenClaim := { program := "ytonpcolkmecddaa", sum := "7ac38c8bde3de7a68c2848556117ded38b6fcf2785569f82b08f042cd3f0915b", func := "haberdash/haberdashlaw02.QueueApart", spec := "queueApart", unfollowed := true, recurses := true, apart := false }
def QueueApartSaid : Prop := queueApartRow.holds Try.pinned (OpenSpec.ofChange queueApartSpec)

/-- ITS FALSE NEIGHBOUR: 'it returns false'. Refute it at one input. -/
def queueApartWrong : ChangeSpec := { name := "queueApart", fn := fun _ => fun
  | [d1, d2] => { results := [.lit (.bool false)], args := [d1, d2] }
  | _ => none }
def QueueApartWrongFalsely : Prop := queueApartRow.holds Try.pinned (OpenSpec.ofChange queueApartWrong)

/-- 'haberdashlaw02.QueuePlays': WHATEVER THE INPUT: true; the input reads as it did. -/
def queuePlaysSpec : ChangeSpec := { name := "queuePlays", fn := fun _ => fun
  | [d] => { results := [.lit (.bool true)], args := [d] }
  | _ => none }
def queuePlaysRow : OpenClaim := { program := "ytonpcolkmecddaa", sum := "7ac38c8bde3de7a68c2848556117ded38b6fcf2785569f82b08f042cd3f0915b", func := "haberdash/haberdashlaw02.QueuePlays", spec := "queuePlays", unfollowed := true, recurses := true, apart := false }
def QueuePlaysSaid : Prop := queuePlaysRow.holds Try.pinned (OpenSpec.ofChange queuePlaysSpec)

/-- ITS FALSE NEIGHBOUR: 'it returns false'. Refute it at one input. -/
def queuePlaysWrong : ChangeSpec := { name := "queuePlays", fn := fun _ => fun
  | [d] => { results := [.lit (.bool false)], args := [d] }
  | _ => none }
def QueuePlaysWrongFalsely : Prop := queuePlaysRow.holds Try.pinned (OpenSpec.ofChange queuePlaysWrong)

/-- 'haberdashlaw02.QueueNil': WHATEVER THE INPUT: true; the input reads as it did. -/
def queueNilSpec : ChangeSpec := { name := "queueNil", fn := fun _ => fun
  | [d1, d2] => { results := [.lit (.bool true)], args := [d1, d2] }
  | _ => none }
def queueNilRow : OpenClaim := { program := "ytonpcolkmecddaa", sum := "7ac38c8bde3de7a68c2848556117ded38b6fcf2785569f82b08f042cd3f0915b", func := "haberdash/haberdashlaw02.QueueNil", spec := "queueNil", unfollowed := true, recurses := true, apart := false }
def QueueNilSaid : Prop := queueNilRow.holds Try.pinned (OpenSpec.ofChange queueNilSpec)

/-- ITS FALSE NEIGHBOUR: 'it returns false'. Refute it at one input. -/
def queueNilWrong : ChangeSpec := { name := "queueNil", fn := fun _ => fun
  | [d1, d2] => { results := [.lit (.bool false)], args := [d1, d2] }
  | _ => none }
def QueueNilWrongFalsely : Prop := queueNilRow.holds Try.pinned (OpenSpec.ofChange queueNilWrong)

/-- 'haberdashlaw02.QueueStays': WHATEVER THE INPUT: true; the input reads as it did. -/
def queueStaysSpec : ChangeSpec := { name := "queueStays", fn := fun _ => fun
  | [d1, d2] => { results := [.lit (.bool true)], args := [d1, d2] }
  | _ => none }
def queueStaysRow : OpenClaim := { program := "ytonpcolkmecddaa", sum := "7ac38c8bde3de7a68c2848556117ded38b6fcf2785569f82b08f042cd3f0915b", func := "haberdash/haberdashlaw02.QueueStays", spec := "queueStays", unfollowed := true, recurses := true, apart := false }
def QueueStaysSaid : Prop := queueStaysRow.holds Try.pinned (OpenSpec.ofChange queueStaysSpec)

/-- ITS FALSE NEIGHBOUR: 'it returns false'. Refute it at one input. -/
def queueStaysWrong : ChangeSpec := { name := "queueStays", fn := fun _ => fun
  | [d1, d2] => { results := [.lit (.bool false)], args := [d1, d2] }
  | _ => none }
def QueueStaysWrongFalsely : Prop := queueStaysRow.holds Try.pinned (OpenSpec.ofChange queueStaysWrong)

/-- 'haberdashlaw01.MoneySmall': WHATEVER THE INPUT: true; the input reads as it did. -/
def moneySmallSpec : ChangeSpec := { name := "moneySmall", fn := fun _ => fun
  | [d1, d2, d3] => { results := [.lit (.bool true)], args := [d1, d2, d3] }
  | _ => none }
def moneySmallRow : OpenClaim := { program := "ytonpcolkmecddaa", sum := "7ac38c8bde3de7a68c2848556117ded38b6fcf2785569f82b08f042cd3f0915b", func := "haberdash/haberdashlaw01.MoneySmall", spec := "moneySmall", unfollowed := true, recurses := true, named := ["math/bits.divideError", "math/bits.overflowError"], apart := false }
def MoneySmallSaid : Prop := moneySmallRow.holds Try.pinned (OpenSpec.ofChange moneySmallSpec)

/-- ITS FALSE NEIGHBOUR: 'it returns false'. Refute it at one input. -/
def moneySmallWrong : ChangeSpec := { name := "moneySmall", fn := fun _ => fun
  | [d1, d2, d3] => { results := [.lit (.bool false)], args := [d1, d2, d3] }
  | _ => none }
def MoneySmallWrongFalsely : Prop := moneySmallRow.holds Try.pinned (OpenSpec.ofChange moneySmallWrong)

/-- 'haberdashlaw01.MoneyHalves': WHATEVER THE INPUT: true; the input reads as it did. -/
def moneyHalvesSpec : ChangeSpec := { name := "moneyHalves", fn := fun _ => fun
  | [d] => { results := [.lit (.bool true)], args := [d] }
  | _ => none }
def moneyHalvesRow : OpenClaim := { program := "ytonpcolkmecddaa", sum := "7ac38c8bde3de7a68c2848556117ded38b6fcf2785569f82b08f042cd3f0915b", func := "haberdash/haberdashlaw01.MoneyHalves", spec := "moneyHalves", unfollowed := true, recurses := true, named := ["math/bits.divideError", "math/bits.overflowError"], apart := false }
def MoneyHalvesSaid : Prop := moneyHalvesRow.holds Try.pinned (OpenSpec.ofChange moneyHalvesSpec)

/-- ITS FALSE NEIGHBOUR: 'it returns false'. Refute it at one input. -/
def moneyHalvesWrong : ChangeSpec := { name := "moneyHalves", fn := fun _ => fun
  | [d] => { results := [.lit (.bool false)], args := [d] }
  | _ => none }
def MoneyHalvesWrongFalsely : Prop := moneyHalvesRow.holds Try.pinned (OpenSpec.ofChange moneyHalvesWrong)

/-- 'haberdashlaw01.MoneyOrder': WHATEVER THE INPUT: true; the input reads as it did. -/
def moneyOrderSpec : ChangeSpec := { name := "moneyOrder", fn := fun _ => fun
  | [d1, d2, d3, d4, d5] => { results := [.lit (.bool true)], args := [d1, d2, d3, d4, d5] }
  | _ => none }
def moneyOrderRow : OpenClaim := { program := "ytonpcolkmecddaa", sum := "7ac38c8bde3de7a68c2848556117ded38b6fcf2785569f82b08f042cd3f0915b", func := "haberdash/haberdashlaw01.MoneyOrder", spec := "moneyOrder", unfollowed := true, recurses := true, named := ["math/bits.divideError", "math/bits.overflowError"], apart := false }
def MoneyOrderSaid : Prop := moneyOrderRow.holds Try.pinned (OpenSpec.ofChange moneyOrderSpec)

/-- ITS FALSE NEIGHBOUR: 'it returns false'. Refute it at one input. -/
def moneyOrderWrong : ChangeSpec := { name := "moneyOrder", fn := fun _ => fun
  | [d1, d2, d3, d4, d5] => { results := [.lit (.bool false)], args := [d1, d2, d3, d4, d5] }
  | _ => none }
def MoneyOrderWrongFalsely : Prop := moneyOrderRow.holds Try.pinned (OpenSpec.ofChange moneyOrderWrong)

/-- 'haberdashlaw01.MoneyApart': WHATEVER THE INPUT: true; the input reads as it did. -/
def moneyApartSpec : ChangeSpec := { name := "moneyApart", fn := fun _ => fun
  | [d1, d2, d3] => { results := [.lit (.bool true)], args := [d1, d2, d3] }
  | _ => none }
def moneyApartRow : OpenClaim := { program := "ytonpcolkmecddaa", sum := "7ac38c8bde3de7a68c2848556117ded38b6fcf2785569f82b08f042cd3f0915b", func := "haberdash/haberdashlaw01.MoneyApart", spec := "moneyApart", unfollowed := true, recurses := true, named := ["math/bits.divideError", "math/bits.overflowError"], apart := false }
def MoneyApartSaid : Prop := moneyApartRow.holds Try.pinned (OpenSpec.ofChange moneyApartSpec)

/-- ITS FALSE NEIGHBOUR: 'it returns false'. Refute it at one input. -/
def moneyApartWrong : ChangeSpec := { name := "moneyApart", fn := fun _ => fun
  | [d1, d2, d3] => { results := [.lit (.bool false)], args := [d1, d2, d3] }
  | _ => none }
def MoneyApartWrongFalsely : Prop := moneyApartRow.holds Try.pinned (OpenSpec.ofChange moneyApartWrong)

/-- 'haberdashlaw01.MoneyAll': WHATEVER THE INPUT: true; the input reads as it did. -/
def moneyAllSpec : ChangeSpec := { name := "moneyAll", fn := fun _ => fun
  | [d1, d2, d3, d4, d5] => { results := [.lit (.bool true)], args := [d1, d2, d3, d4, d5] }
  | _ => none }
def moneyAllRow : OpenClaim := { program := "ytonpcolkmecddaa", sum := "7ac38c8bde3de7a68c2848556117ded38b6fcf2785569f82b08f042cd3f0915b", func := "haberdash/haberdashlaw01.MoneyAll", spec := "moneyAll", unfollowed := true, recurses := true, named := ["math/bits.divideError", "math/bits.overflowError"], apart := false }
def MoneyAllSaid : Prop := moneyAllRow.holds Try.pinned (OpenSpec.ofChange moneyAllSpec)

/-- ITS FALSE NEIGHBOUR: 'it returns false'. Refute it at one input. -/
def moneyAllWrong : ChangeSpec := { name := "moneyAll", fn := fun _ => fun
  | [d1, d2, d3, d4, d5] => { results := [.lit (.bool false)], args := [d1, d2, d3, d4, d5] }
  | _ => none }
def MoneyAllWrongFalsely : Prop := moneyAllRow.holds Try.pinned (OpenSpec.ofChange moneyAllWrong)

/-- 'haberdashlaw01.MoneyEdges': WHATEVER THE INPUT: true; the input reads as it did. -/
def moneyEdgesSpec : ChangeSpec := { name := "moneyEdges", fn := fun _ => fun
  | [d1, d2] => { results := [.lit (.bool true)], args := [d1, d2] }
  | _ => none }
def moneyEdgesRow : OpenClaim := { program := "ytonpcolkmecddaa", sum := "7ac38c8bde3de7a68c2848556117ded38b6fcf2785569f82b08f042cd3f0915b", func := "haberdash/haberdashlaw01.MoneyEdges", spec := "moneyEdges", unfollowed := true, recurses := true, named := ["math/bits.divideError", "math/bits.overflowError"], apart := false }
def MoneyEdgesSaid : Prop := moneyEdgesRow.holds Try.pinned (OpenSpec.ofChange moneyEdgesSpec)

/-- ITS FALSE NEIGHBOUR: 'it returns false'. Refute it at one input. -/
def moneyEdgesWrong : ChangeSpec := { name := "moneyEdges", fn := fun _ => fun
  | [d1, d2] => { results := [.lit (.bool false)], args := [d1, d2] }
  | _ => none }
def MoneyEdgesWrongFalsely : Prop := moneyEdgesRow.holds Try.pinned (OpenSpec.ofChange moneyEdgesWrong)

/- THE SECOND FORM. 'bulk': how many values and letters a reading holds, each counted each time it is reached (what is shared counts as often as it is met; a slice's spare places count too). A statement '..UptoSaid' is the law's where the arguments, and the package variables that the reading takes, are together of bulk at most 1048576: NARROWER than '..Said'. Prove '..Said' where nothing that the law and all that it calls make is longer than what came in: it says more and counts as full. Else prove '..UptoSaid'. A law counts once. -/
mutual
def uptoBulk {H : Type} : DataW H → Nat
  | .lit (.string bytes) => bytes.length + 1
  | .lit _ => 1
  | .nil => 1
  | .ptr d => uptoBulk d + 1
  | .slice elems spare => uptoBulkAll elems + uptoBulkAll spare + 1
  | .agg parts => uptoBulkAll parts + 1
  | .iface _ d => uptoBulk d + 1
  | .map entries => uptoBulkEntries entries + 1
  | .held _ => 1
def uptoBulkAll {H : Type} : List (DataW H) → Nat
  | [] => 0
  | d :: r => uptoBulk d + uptoBulkAll r
def uptoBulkEntries {H : Type} : List (Lit × DataW H) → Nat
  | [] => 0
  | x :: r => uptoBulkEntry x + uptoBulkEntries r
def uptoBulkEntry {H : Type} : Lit × DataW H → Nat
  | (.string bytes, d) => bytes.length + uptoBulk d + 1
  | (_, d) => uptoBulk d + 1
 end
def uptoSmall : (H : Type) → List (DataW H) → Bool := fun _ ds => decide (uptoBulkAll ds ≤ 1048576)
def OpenSpec.upto (s : _root_.Go.ChangeSpec) : _root_.Go.OpenSpec := { _root_.Go.OpenSpec.ofChange s with cond := some uptoSmall }

/-- 'haberdashlaw02.QueueOrders', WHERE WHAT IT READS IS OF BULK AT MOST 1048576: true; the input reads as it did. -/
def queueOrdersUptoRow : OpenClaim := { program := "ytonpcolkmecddaa", sum := "7ac38c8bde3de7a68c2848556117ded38b6fcf2785569f82b08f042cd3f0915b", func := "haberdash/haberdashlaw02.QueueOrders", spec := "queueOrders", unfollowed := true, recurses := true, apart := false, narrowed := true }
def QueueOrdersUptoSaid : Prop := queueOrdersUptoRow.holds Try.pinned (OpenSpec.upto queueOrdersSpec)

/-- 'haberdashlaw02.QueueSorts', WHERE WHAT IT READS IS OF BULK AT MOST 1048576: true; the input reads as it did. -/
def queueSortsUptoRow : OpenClaim := { program := "ytonpcolkmecddaa", sum := "7ac38c8bde3de7a68c2848556117ded38b6fcf2785569f82b08f042cd3f0915b", func := "haberdash/haberdashlaw02.QueueSorts", spec := "queueSorts", unfollowed := true, recurses := true, apart := false, narrowed := true }
def QueueSortsUptoSaid : Prop := queueSortsUptoRow.holds Try.pinned (OpenSpec.upto queueSortsSpec)

/-- 'haberdashlaw02.QueueApart', WHERE WHAT IT READS IS OF BULK AT MOST 1048576: true; the input reads as it did. -/
def queueApartUptoRow : OpenClaim := { program := "ytonpcolkmecddaa", sum := "7ac38c8bde3de7a68c2848556117ded38b6fcf2785569f82b08f042cd3f0915b", func := "haberdash/haberdashlaw02.QueueApart", spec := "queueApart", unfollowed := true, recurses := true, apart := false, narrowed := true }
def QueueApartUptoSaid : Prop := queueApartUptoRow.holds Try.pinned (OpenSpec.upto queueApartSpec)

/-- 'haberdashlaw02.QueuePlays', WHERE WHAT IT READS IS OF BULK AT MOST 1048576: true; the input reads as it did. -/
def queuePlaysUptoRow : OpenClaim := { program := "ytonpcolkmecddaa", sum := "7ac38c8bde3de7a68c2848556117ded38b6fcf2785569f82b08f042cd3f0915b", func := "haberdash/haberdashlaw02.QueuePlays", spec := "queuePlays", unfollowed := true, recurses := true, apart := false, narrowed := true }
def QueuePlaysUptoSaid : Prop := queuePlaysUptoRow.holds Try.pinned (OpenSpec.upto queuePlaysSpec)

/-- 'haberdashlaw02.QueueNil', WHERE WHAT IT READS IS OF BULK AT MOST 1048576: true; the input reads as it did. -/
def queueNilUptoRow : OpenClaim := { program := "ytonpcolkmecddaa", sum := "7ac38c8bde3de7a68c2848556117ded38b6fcf2785569f82b08f042cd3f0915b", func := "haberdash/haberdashlaw02.QueueNil", spec := "queueNil", unfollowed := true, recurses := true, apart := false, narrowed := true }
def QueueNilUptoSaid : Prop := queueNilUptoRow.holds Try.pinned (OpenSpec.upto queueNilSpec)

/-- 'haberdashlaw02.QueueStays', WHERE WHAT IT READS IS OF BULK AT MOST 1048576: true; the input reads as it did. -/
def queueStaysUptoRow : OpenClaim := { program := "ytonpcolkmecddaa", sum := "7ac38c8bde3de7a68c2848556117ded38b6fcf2785569f82b08f042cd3f0915b", func := "haberdash/haberdashlaw02.QueueStays", spec := "queueStays", unfollowed := true, recurses := true, apart := false, narrowed := true }
def QueueStaysUptoSaid : Prop := queueStaysUptoRow.holds Try.pinned (OpenSpec.upto queueStaysSpec)

/-- 'haberdashlaw01.MoneySmall', WHERE WHAT IT READS IS OF BULK AT MOST 1048576: true; the input reads as it did. -/
def moneySmallUptoRow : OpenClaim := { program := "ytonpcolkmecddaa", sum := "7ac38c8bde3de7a68c2848556117ded38b6fcf2785569f82b08f042cd3f0915b", func := "haberdash/haberdashlaw01.MoneySmall", spec := "moneySmall", unfollowed := true, recurses := true, named := ["math/bits.divideError", "math/bits.overflowError"], apart := false, narrowed := true }
def MoneySmallUptoSaid : Prop := moneySmallUptoRow.holds Try.pinned (OpenSpec.upto moneySmallSpec)

/-- 'haberdashlaw01.MoneyHalves', WHERE WHAT IT READS IS OF BULK AT MOST 1048576: true; the input reads as it did. -/
def moneyHalvesUptoRow : OpenClaim := { program := "ytonpcolkmecddaa", sum := "7ac38c8bde3de7a68c2848556117ded38b6fcf2785569f82b08f042cd3f0915b", func := "haberdash/haberdashlaw01.MoneyHalves", spec := "moneyHalves", unfollowed := true, recurses := true, named := ["math/bits.divideError", "math/bits.overflowError"], apart := false, narrowed := true }
def MoneyHalvesUptoSaid : Prop := moneyHalvesUptoRow.holds Try.pinned (OpenSpec.upto moneyHalvesSpec)

/-- 'haberdashlaw01.MoneyOrder', WHERE WHAT IT READS IS OF BULK AT MOST 1048576: true; the input reads as it did. -/
def moneyOrderUptoRow : OpenClaim := { program := "ytonpcolkmecddaa", sum := "7ac38c8bde3de7a68c2848556117ded38b6fcf2785569f82b08f042cd3f0915b", func := "haberdash/haberdashlaw01.MoneyOrder", spec := "moneyOrder", unfollowed := true, recurses := true, named := ["math/bits.divideError", "math/bits.overflowError"], apart := false, narrowed := true }
def MoneyOrderUptoSaid : Prop := moneyOrderUptoRow.holds Try.pinned (OpenSpec.upto moneyOrderSpec)

/-- 'haberdashlaw01.MoneyApart', WHERE WHAT IT READS IS OF BULK AT MOST 1048576: true; the input reads as it did. -/
def moneyApartUptoRow : OpenClaim := { program := "ytonpcolkmecddaa", sum := "7ac38c8bde3de7a68c2848556117ded38b6fcf2785569f82b08f042cd3f0915b", func := "haberdash/haberdashlaw01.MoneyApart", spec := "moneyApart", unfollowed := true, recurses := true, named := ["math/bits.divideError", "math/bits.overflowError"], apart := false, narrowed := true }
def MoneyApartUptoSaid : Prop := moneyApartUptoRow.holds Try.pinned (OpenSpec.upto moneyApartSpec)

/-- 'haberdashlaw01.MoneyAll', WHERE WHAT IT READS IS OF BULK AT MOST 1048576: true; the input reads as it did. -/
def moneyAllUptoRow : OpenClaim := { program := "ytonpcolkmecddaa", sum := "7ac38c8bde3de7a68c2848556117ded38b6fcf2785569f82b08f042cd3f0915b", func := "haberdash/haberdashlaw01.MoneyAll", spec := "moneyAll", unfollowed := true, recurses := true, named := ["math/bits.divideError", "math/bits.overflowError"], apart := false, narrowed := true }
def MoneyAllUptoSaid : Prop := moneyAllUptoRow.holds Try.pinned (OpenSpec.upto moneyAllSpec)

/-- 'haberdashlaw01.MoneyEdges', WHERE WHAT IT READS IS OF BULK AT MOST 1048576: true; the input reads as it did. -/
def moneyEdgesUptoRow : OpenClaim := { program := "ytonpcolkmecddaa", sum := "7ac38c8bde3de7a68c2848556117ded38b6fcf2785569f82b08f042cd3f0915b", func := "haberdash/haberdashlaw01.MoneyEdges", spec := "moneyEdges", unfollowed := true, recurses := true, named := ["math/bits.divideError", "math/bits.overflowError"], apart := false, narrowed := true }
def MoneyEdgesUptoSaid : Prop := moneyEdgesUptoRow.holds Try.pinned (OpenSpec.upto moneyEdgesSpec)

end Rows
end Go.Proofs.Ytonpcolkmecddaa
