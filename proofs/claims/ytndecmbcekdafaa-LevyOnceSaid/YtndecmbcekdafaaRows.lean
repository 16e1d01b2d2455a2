/-
  No cell of these rows narrows 'for every input' (looked for: loops, veiled, ifaces, maps, wideKeys, modest, calm, conditions, laid).
  DERIVED. THE GIVEN ROWS OF THIS SEAT. 10 by the template 'for every input the law returns true; each argument reads behind the call as it read before'; 0 by the template 'total and deterministic' (their statements: YtndecmbcekdafaaTotals.lean).
  GIVEN WITH THE SEED: the statements are not yours to turn. If you find one false, say at which input.
  Laid BY PROGRAM, IN A SANDBOX (cutbox-rows.mjs): the forced cells as the released guide's own fill.sh prints them over the translation 532e280ca1c0d7ea… (all of the seat's roots in one cut). By AI agents, Wed Nov 11 2026. No macro, syntax, notation, axiom, sorry.
-/
import Derived.Test.YtndecmbcekdafaaChecked
import GoSem.Claim
import GoSem.ClaimJoined
import GoSem.ClaimMapViews
import Derived.JoinedTies
import Derived.KernelRfl
namespace Go.Proofs.Ytndecmbcekdafaa
/- THE CELL 'sum', in the pinned program and in every row, IS THE sha256 OF THE DUMP (.gsa) THAT YtndecmbcekdafaaProg.lean LOADS. Nothing in Lean hashes anything: it is a label: what it is worth is what the hold of that sum in a sandbox is worth. -/
noncomputable def Try.pinned : Pinned := { name := "ytndecmbcekdafaa", sum := "532e280ca1c0d7eaa0b5be04bd3bee7a32955efdf51104584833fc53df63afc0", checked := Try.checked }
namespace Rows
def none {H : Type} : Left H := { results := [], args := [] }

/-- 'haberdashlaw19.LevyRaw': WHATEVER THE INPUT: true; the input reads as it did. -/
def levyRawSpec : ChangeSpec := { name := "levyRaw", fn := fun _ => fun
  | [d1, d2, d3, d4, d5, d6, d7] => { results := [.lit (.bool true)], args := [d1, d2, d3, d4, d5, d6, d7] }
  | _ => none }
def levyRawRow : OpenClaim := { program := "ytndecmbcekdafaa", sum := "532e280ca1c0d7eaa0b5be04bd3bee7a32955efdf51104584833fc53df63afc0", func := "haberdash/haberdashlaw19.LevyRaw", spec := "levyRaw", unfollowed := true, recurses := true, named := ["math/bits.divideError", "math/bits.overflowError"], apart := false }
def LevyRawSaid : Prop := levyRawRow.holds Try.pinned (OpenSpec.ofChange levyRawSpec)

/-- ITS FALSE NEIGHBOUR: 'it returns false'. Refute it at one input. -/
def levyRawWrong : ChangeSpec := { name := "levyRaw", fn := fun _ => fun
  | [d1, d2, d3, d4, d5, d6, d7] => { results := [.lit (.bool false)], args := [d1, d2, d3, d4, d5, d6, d7] }
  | _ => none }
def LevyRawWrongFalsely : Prop := levyRawRow.holds Try.pinned (OpenSpec.ofChange levyRawWrong)

/-- 'haberdashlaw19.LevyAll': WHATEVER THE INPUT: true; the input reads as it did. -/
def levyAllSpec : ChangeSpec := { name := "levyAll", fn := fun _ => fun
  | [d1, d2, d3, d4, d5, d6] => { results := [.lit (.bool true)], args := [d1, d2, d3, d4, d5, d6] }
  | _ => none }
def levyAllRow : OpenClaim := { program := "ytndecmbcekdafaa", sum := "532e280ca1c0d7eaa0b5be04bd3bee7a32955efdf51104584833fc53df63afc0", func := "haberdash/haberdashlaw19.LevyAll", spec := "levyAll", unfollowed := true, recurses := true, named := ["math/bits.divideError", "math/bits.overflowError"], apart := false }
def LevyAllSaid : Prop := levyAllRow.holds Try.pinned (OpenSpec.ofChange levyAllSpec)

/-- ITS FALSE NEIGHBOUR: 'it returns false'. Refute it at one input. -/
def levyAllWrong : ChangeSpec := { name := "levyAll", fn := fun _ => fun
  | [d1, d2, d3, d4, d5, d6] => { results := [.lit (.bool false)], args := [d1, d2, d3, d4, d5, d6] }
  | _ => none }
def LevyAllWrongFalsely : Prop := levyAllRow.holds Try.pinned (OpenSpec.ofChange levyAllWrong)

/-- 'haberdashlaw19.LevySums': WHATEVER THE INPUT: true; the input reads as it did. -/
def levySumsSpec : ChangeSpec := { name := "levySums", fn := fun _ => fun
  | [d1, d2, d3, d4, d5] => { results := [.lit (.bool true)], args := [d1, d2, d3, d4, d5] }
  | _ => none }
def levySumsRow : OpenClaim := { program := "ytndecmbcekdafaa", sum := "532e280ca1c0d7eaa0b5be04bd3bee7a32955efdf51104584833fc53df63afc0", func := "haberdash/haberdashlaw19.LevySums", spec := "levySums", unfollowed := true, recurses := true, named := ["math/bits.divideError", "math/bits.overflowError"], apart := false }
def LevySumsSaid : Prop := levySumsRow.holds Try.pinned (OpenSpec.ofChange levySumsSpec)

/-- ITS FALSE NEIGHBOUR: 'it returns false'. Refute it at one input. -/
def levySumsWrong : ChangeSpec := { name := "levySums", fn := fun _ => fun
  | [d1, d2, d3, d4, d5] => { results := [.lit (.bool false)], args := [d1, d2, d3, d4, d5] }
  | _ => none }
def LevySumsWrongFalsely : Prop := levySumsRow.holds Try.pinned (OpenSpec.ofChange levySumsWrong)

/-- 'haberdashlaw19.LevyOnce': WHATEVER THE INPUT: true; the input reads as it did. -/
def levyOnceSpec : ChangeSpec := { name := "levyOnce", fn := fun _ => fun
  | [d1, d2, d3, d4] => { results := [.lit (.bool true)], args := [d1, d2, d3, d4] }
  | _ => none }
def levyOnceRow : OpenClaim := { program := "ytndecmbcekdafaa", sum := "532e280ca1c0d7eaa0b5be04bd3bee7a32955efdf51104584833fc53df63afc0", func := "haberdash/haberdashlaw19.LevyOnce", spec := "levyOnce", unfollowed := true, recurses := true, named := ["math/bits.divideError", "math/bits.overflowError"], apart := false }
def LevyOnceSaid : Prop := levyOnceRow.holds Try.pinned (OpenSpec.ofChange levyOnceSpec)

/-- ITS FALSE NEIGHBOUR: 'it returns false'. Refute it at one input. -/
def levyOnceWrong : ChangeSpec := { name := "levyOnce", fn := fun _ => fun
  | [d1, d2, d3, d4] => { results := [.lit (.bool false)], args := [d1, d2, d3, d4] }
  | _ => none }
def LevyOnceWrongFalsely : Prop := levyOnceRow.holds Try.pinned (OpenSpec.ofChange levyOnceWrong)

/-- 'haberdashlaw19.LevyRates': WHATEVER THE INPUT: true; the input reads as it did. -/
def levyRatesSpec : ChangeSpec := { name := "levyRates", fn := fun _ => fun
  | [d1, d2, d3, d4, d5, d6, d7] => { results := [.lit (.bool true)], args := [d1, d2, d3, d4, d5, d6, d7] }
  | _ => none }
def levyRatesRow : OpenClaim := { program := "ytndecmbcekdafaa", sum := "532e280ca1c0d7eaa0b5be04bd3bee7a32955efdf51104584833fc53df63afc0", func := "haberdash/haberdashlaw19.LevyRates", spec := "levyRates", unfollowed := true, recurses := true, named := ["math/bits.divideError", "math/bits.overflowError"], apart := false }
def LevyRatesSaid : Prop := levyRatesRow.holds Try.pinned (OpenSpec.ofChange levyRatesSpec)

/-- ITS FALSE NEIGHBOUR: 'it returns false'. Refute it at one input. -/
def levyRatesWrong : ChangeSpec := { name := "levyRates", fn := fun _ => fun
  | [d1, d2, d3, d4, d5, d6, d7] => { results := [.lit (.bool false)], args := [d1, d2, d3, d4, d5, d6, d7] }
  | _ => none }
def LevyRatesWrongFalsely : Prop := levyRatesRow.holds Try.pinned (OpenSpec.ofChange levyRatesWrong)

/-- 'haberdashlaw15.CutRaw': WHATEVER THE INPUT: true; the input reads as it did. -/
def cutRawSpec : ChangeSpec := { name := "cutRaw", fn := fun _ => fun
  | [d1, d2, d3, d4] => { results := [.lit (.bool true)], args := [d1, d2, d3, d4] }
  | _ => none }
def cutRawRow : OpenClaim := { program := "ytndecmbcekdafaa", sum := "532e280ca1c0d7eaa0b5be04bd3bee7a32955efdf51104584833fc53df63afc0", func := "haberdash/haberdashlaw15.CutRaw", spec := "cutRaw", unfollowed := true, recurses := true, named := ["math/bits.divideError", "math/bits.overflowError"], apart := false }
def CutRawSaid : Prop := cutRawRow.holds Try.pinned (OpenSpec.ofChange cutRawSpec)

/-- ITS FALSE NEIGHBOUR: 'it returns false'. Refute it at one input. -/
def cutRawWrong : ChangeSpec := { name := "cutRaw", fn := fun _ => fun
  | [d1, d2, d3, d4] => { results := [.lit (.bool false)], args := [d1, d2, d3, d4] }
  | _ => none }
def CutRawWrongFalsely : Prop := cutRawRow.holds Try.pinned (OpenSpec.ofChange cutRawWrong)

/-- 'haberdashlaw15.CutAll': WHATEVER THE INPUT: true; the input reads as it did. -/
def cutAllSpec : ChangeSpec := { name := "cutAll", fn := fun _ => fun
  | [d1, d2, d3, d4] => { results := [.lit (.bool true)], args := [d1, d2, d3, d4] }
  | _ => none }
def cutAllRow : OpenClaim := { program := "ytndecmbcekdafaa", sum := "532e280ca1c0d7eaa0b5be04bd3bee7a32955efdf51104584833fc53df63afc0", func := "haberdash/haberdashlaw15.CutAll", spec := "cutAll", unfollowed := true, recurses := true, named := ["math/bits.divideError", "math/bits.overflowError"], apart := false }
def CutAllSaid : Prop := cutAllRow.holds Try.pinned (OpenSpec.ofChange cutAllSpec)

/-- ITS FALSE NEIGHBOUR: 'it returns false'. Refute it at one input. -/
def cutAllWrong : ChangeSpec := { name := "cutAll", fn := fun _ => fun
  | [d1, d2, d3, d4] => { results := [.lit (.bool false)], args := [d1, d2, d3, d4] }
  | _ => none }
def CutAllWrongFalsely : Prop := cutAllRow.holds Try.pinned (OpenSpec.ofChange cutAllWrong)

/-- 'haberdashlaw15.CutKeeps': WHATEVER THE INPUT: true; the input reads as it did. -/
def cutKeepsSpec : ChangeSpec := { name := "cutKeeps", fn := fun _ => fun
  | [d1, d2, d3] => { results := [.lit (.bool true)], args := [d1, d2, d3] }
  | _ => none }
def cutKeepsRow : OpenClaim := { program := "ytndecmbcekdafaa", sum := "532e280ca1c0d7eaa0b5be04bd3bee7a32955efdf51104584833fc53df63afc0", func := "haberdash/haberdashlaw15.CutKeeps", spec := "cutKeeps", unfollowed := true, recurses := true, named := ["math/bits.divideError", "math/bits.overflowError"], apart := false }
def CutKeepsSaid : Prop := cutKeepsRow.holds Try.pinned (OpenSpec.ofChange cutKeepsSpec)

/-- ITS FALSE NEIGHBOUR: 'it returns false'. Refute it at one input. -/
def cutKeepsWrong : ChangeSpec := { name := "cutKeeps", fn := fun _ => fun
  | [d1, d2, d3] => { results := [.lit (.bool false)], args := [d1, d2, d3] }
  | _ => none }
def CutKeepsWrongFalsely : Prop := cutKeepsRow.holds Try.pinned (OpenSpec.ofChange cutKeepsWrong)

/-- 'haberdashlaw15.CutEach': WHATEVER THE INPUT: true; the input reads as it did. -/
def cutEachSpec : ChangeSpec := { name := "cutEach", fn := fun _ => fun
  | [d1, d2, d3, d4] => { results := [.lit (.bool true)], args := [d1, d2, d3, d4] }
  | _ => none }
def cutEachRow : OpenClaim := { program := "ytndecmbcekdafaa", sum := "532e280ca1c0d7eaa0b5be04bd3bee7a32955efdf51104584833fc53df63afc0", func := "haberdash/haberdashlaw15.CutEach", spec := "cutEach", unfollowed := true, recurses := true, named := ["math/bits.divideError", "math/bits.overflowError"], apart := false }
def CutEachSaid : Prop := cutEachRow.holds Try.pinned (OpenSpec.ofChange cutEachSpec)

/-- ITS FALSE NEIGHBOUR: 'it returns false'. Refute it at one input. -/
def cutEachWrong : ChangeSpec := { name := "cutEach", fn := fun _ => fun
  | [d1, d2, d3, d4] => { results := [.lit (.bool false)], args := [d1, d2, d3, d4] }
  | _ => none }
def CutEachWrongFalsely : Prop := cutEachRow.holds Try.pinned (OpenSpec.ofChange cutEachWrong)

/-- 'haberdashlaw15.CutTiers': WHATEVER THE INPUT: true; the input reads as it did. -/
def cutTiersSpec : ChangeSpec := { name := "cutTiers", fn := fun _ => fun
  | [d1, d2, d3, d4] => { results := [.lit (.bool true)], args := [d1, d2, d3, d4] }
  | _ => none }
def cutTiersRow : OpenClaim := { program := "ytndecmbcekdafaa", sum := "532e280ca1c0d7eaa0b5be04bd3bee7a32955efdf51104584833fc53df63afc0", func := "haberdash/haberdashlaw15.CutTiers", spec := "cutTiers", unfollowed := true, recurses := true, named := ["math/bits.divideError", "math/bits.overflowError"], apart := false }
def CutTiersSaid : Prop := cutTiersRow.holds Try.pinned (OpenSpec.ofChange cutTiersSpec)

/-- ITS FALSE NEIGHBOUR: 'it returns false'. Refute it at one input. -/
def cutTiersWrong : ChangeSpec := { name := "cutTiers", fn := fun _ => fun
  | [d1, d2, d3, d4] => { results := [.lit (.bool false)], args := [d1, d2, d3, d4] }
  | _ => none }
def CutTiersWrongFalsely : Prop := cutTiersRow.holds Try.pinned (OpenSpec.ofChange cutTiersWrong)

/- THE SECOND FORM. 'bulk': how many values and letters a reading holds, each counted each time it is reached (what is shared counts as often as it is met; a slice's spare places count too). A statement '..UptoSaid' is the law's where the arguments, and the package variables that the reading takes, are together of bulk at most 1048576: NARROWER than '..Said'. Prove '..Said' where nothing that the law and all that it calls make is longer than what came in: it says more and counts as full. Else prove '..UptoSaid'. A law counts once. -/
mutual
def uptoBulk {H : Type} : DataW H → Nat
  | .lit (.string bytes) => bytes.length + 1
  | .lit _ => 1
  | .nil => 1
  | .ptr d => uptoBulk d + 1
  | .slice elems spare => uptoBulkAll elems + uptoBulkAll spare + 1
  | .agg parts => uptoBulkAll parts + 1
  | .iface _ d => uptoBulk d + 1
  | .map entries => uptoBulkEntries entries + 1
  | .held _ => 1
def uptoBulkAll {H : Type} : List (DataW H) → Nat
  | [] => 0
  | d :: r => uptoBulk d + uptoBulkAll r
def uptoBulkEntries {H : Type} : List (Lit × DataW H) → Nat
  | [] => 0
  | x :: r => uptoBulkEntry x + uptoBulkEntries r
def uptoBulkEntry {H : Type} : Lit × DataW H → Nat
  | (.string bytes, d) => bytes.length + uptoBulk d + 1
  | (_, d) => uptoBulk d + 1
 end
def uptoSmall : (H : Type) → List (DataW H) → Bool := fun _ ds => decide (uptoBulkAll ds ≤ 1048576)
def OpenSpec.upto (s : _root_.Go.ChangeSpec) : _root_.Go.OpenSpec := { _root_.Go.OpenSpec.ofChange s with cond := some uptoSmall }

/-- 'haberdashlaw19.LevyRaw', WHERE WHAT IT READS IS OF BULK AT MOST 1048576: true; the input reads as it did. -/
def levyRawUptoRow : OpenClaim := { program := "ytndecmbcekdafaa", sum := "532e280ca1c0d7eaa0b5be04bd3bee7a32955efdf51104584833fc53df63afc0", func := "haberdash/haberdashlaw19.LevyRaw", spec := "levyRaw", unfollowed := true, recurses := true, named := ["math/bits.divideError", "math/bits.overflowError"], apart := false, narrowed := true }
def LevyRawUptoSaid : Prop := levyRawUptoRow.holds Try.pinned (OpenSpec.upto levyRawSpec)

/-- 'haberdashlaw19.LevyAll', WHERE WHAT IT READS IS OF BULK AT MOST 1048576: true; the input reads as it did. -/
def levyAllUptoRow : OpenClaim := { program := "ytndecmbcekdafaa", sum := "532e280ca1c0d7eaa0b5be04bd3bee7a32955efdf51104584833fc53df63afc0", func := "haberdash/haberdashlaw19.LevyAll", spec := "levyAll", unfollowed := true, recurses := true, named := ["math/bits.divideError", "math/bits.overflowError"], apart := false, narrowed := true }
def LevyAllUptoSaid : Prop := levyAllUptoRow.holds Try.pinned (OpenSpec.upto levyAllSpec)

/-- 'haberdashlaw19.LevySums', WHERE WHAT IT READS IS OF BULK AT MOST 1048576: true; the input reads as it did. -/
def levySumsUptoRow : OpenClaim := { program := "ytndecmbcekdafaa", sum := "532e280ca1c0d7eaa0b5be04bd3bee7a32955efdf51104584833fc53df63afc0", func := "haberdash/haberdashlaw19.LevySums", spec := "levySums", unfollowed := true, recurses := true, named := ["math/bits.divideError", "math/bits.overflowError"], apart := false, narrowed := true }
def LevySumsUptoSaid : Prop := levySumsUptoRow.holds Try.pinned (OpenSpec.upto levySumsSpec)

/-- 'haberdashlaw19.LevyOnce', WHERE WHAT IT READS IS OF BULK AT MOST 1048576: true; the input reads as it did. -/
def levyOnceUptoRow : OpenClaim := { program := "ytndecmbcekdafaa", sum := "532e280ca1c0d7eaa0b5be04bd3bee7a32955efdf51104584833fc53df63afc0", func := "haberdash/haberdashlaw19.LevyOnce", spec := "levyOnce", unfollowed := true, recurses := true, named := ["math/bits.divideError", "math/bits.overflowError"], apart := false, narrowed := true }
def LevyOnceUptoSaid : Prop := levyOnceUptoRow.holds Try.pinned (OpenSpec.upto levyOnceSpec)

/-- 'haberdashlaw19.LevyRates', WHERE WHAT IT READS IS OF BULK AT MOST 1048576: true; the input reads as it did. -/
def levyRatesUptoRow : OpenClaim := { program := "ytndecmbcekdafaa", sum := "532e280ca1c0d7eaa0b5be04bd3bee7a32955efdf51104584833fc53df63afc0", func := "haberdash/haberdashlaw19.LevyRates", spec := "levyRates", unfollowed := true, recurses := true, named := ["math/bits.divideError", "math/bits.overflowError"], apart := false, narrowed := true }
def LevyRatesUptoSaid : Prop := levyRatesUptoRow.holds Try.pinned (OpenSpec.upto levyRatesSpec)

/-- 'haberdashlaw15.CutRaw', WHERE WHAT IT READS IS OF BULK AT MOST 1048576: true; the input reads as it did. -/
def cutRawUptoRow : OpenClaim := { program := "ytndecmbcekdafaa", sum := "532e280ca1c0d7eaa0b5be04bd3bee7a32955efdf51104584833fc53df63afc0", func := "haberdash/haberdashlaw15.CutRaw", spec := "cutRaw", unfollowed := true, recurses := true, named := ["math/bits.divideError", "math/bits.overflowError"], apart := false, narrowed := true }
def CutRawUptoSaid : Prop := cutRawUptoRow.holds Try.pinned (OpenSpec.upto cutRawSpec)

/-- 'haberdashlaw15.CutAll', WHERE WHAT IT READS IS OF BULK AT MOST 1048576: true; the input reads as it did. -/
def cutAllUptoRow : OpenClaim := { program := "ytndecmbcekdafaa", sum := "532e280ca1c0d7eaa0b5be04bd3bee7a32955efdf51104584833fc53df63afc0", func := "haberdash/haberdashlaw15.CutAll", spec := "cutAll", unfollowed := true, recurses := true, named := ["math/bits.divideError", "math/bits.overflowError"], apart := false, narrowed := true }
def CutAllUptoSaid : Prop := cutAllUptoRow.holds Try.pinned (OpenSpec.upto cutAllSpec)

/-- 'haberdashlaw15.CutKeeps', WHERE WHAT IT READS IS OF BULK AT MOST 1048576: true; the input reads as it did. -/
def cutKeepsUptoRow : OpenClaim := { program := "ytndecmbcekdafaa", sum := "532e280ca1c0d7eaa0b5be04bd3bee7a32955efdf51104584833fc53df63afc0", func := "haberdash/haberdashlaw15.CutKeeps", spec := "cutKeeps", unfollowed := true, recurses := true, named := ["math/bits.divideError", "math/bits.overflowError"], apart := false, narrowed := true }
def CutKeepsUptoSaid : Prop := cutKeepsUptoRow.holds Try.pinned (OpenSpec.upto cutKeepsSpec)

/-- 'haberdashlaw15.CutEach', WHERE WHAT IT READS IS OF BULK AT MOST 1048576: true; the input reads as it did. -/
def cutEachUptoRow : OpenClaim := { program := "ytndecmbcekdafaa", sum := "532e280ca1c0d7eaa0b5be04bd3bee7a32955efdf51104584833fc53df63afc0", func := "haberdash/haberdashlaw15.CutEach", spec := "cutEach", unfollowed := true, recurses := true, named := ["math/bits.divideError", "math/bits.overflowError"], apart := false, narrowed := true }
def CutEachUptoSaid : Prop := cutEachUptoRow.holds Try.pinned (OpenSpec.upto cutEachSpec)

/-- 'haberdashlaw15.CutTiers', WHERE WHAT IT READS IS OF BULK AT MOST 1048576: true; the input reads as it did. -/
def cutTiersUptoRow : OpenClaim := { program := "ytndecmbcekdafaa", sum := "532e280ca1c0d7eaa0b5be04bd3bee7a32955efdf51104584833fc53df63afc0", func := "haberdash/haberdashlaw15.CutTiers", spec := "cutTiers", unfollowed := true, recurses := true, named := ["math/bits.divideError", "math/bits.overflowError"], apart := false, narrowed := true }
def CutTiersUptoSaid : Prop := cutTiersUptoRow.holds Try.pinned (OpenSpec.upto cutTiersSpec)

end Rows
end Go.Proofs.Ytndecmbcekdafaa
