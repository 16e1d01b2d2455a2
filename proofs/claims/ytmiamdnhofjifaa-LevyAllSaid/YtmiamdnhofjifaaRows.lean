/-
  No cell of these rows narrows 'for every input' (looked for: loops, veiled, ifaces, maps, wideKeys, modest, calm, conditions, laid).
  DERIVED. THE GIVEN ROWS OF THIS SEAT. 2 by the template 'for every input the law returns true; each argument reads behind the call as it read before'; 0 by the template 'total and deterministic' (their statements: YtmiamdnhofjifaaTotals.lean).
  GIVEN WITH THE SEED: the statements are not yours to turn. If you find one false, say at which input.
  Laid BY PROGRAM, IN A SANDBOX (cutbox-rows.mjs): the forced cells as the released guide's own fill.sh prints them over the translation 994198a822899760… (all of the seat's roots in one cut). By AI agents, Wed Nov 11 2026. No macro, syntax, notation, axiom, sorry.
-/
import Derived.Test.YtmiamdnhofjifaaChecked
import GoSem.Claim
import GoSem.ClaimJoined
import GoSem.ClaimMapViews
import Derived.JoinedTies
import Derived.KernelRfl
namespace Go.Proofs.Ytmiamdnhofjifaa
/- THE CELL 'sum', in the pinned program and in every row, IS THE sha256 OF THE DUMP (.gsa) THAT YtmiamdnhofjifaaProg.lean LOADS. Nothing in Lean hashes anything: it is a label: what it is worth is what the hold of that sum in a sandbox is worth. -/
noncomputable def Try.pinned : Pinned := { name := "ytmiamdnhofjifaa", sum := "994198a822899760ad89f6f9acc92cc4d844864338a2b39ccbf1a5dc09b5c104", checked := Try.checked }
namespace Rows
def none {H : Type} : Left H := { results := [], args := [] }

/-- 'haberdashlaw19.LevyRaw': WHATEVER THE INPUT: true; the input reads as it did. -/
def levyRawSpec : ChangeSpec := { name := "levyRaw", fn := fun _ => fun
  | [d1, d2, d3, d4, d5, d6, d7] => { results := [.lit (.bool true)], args := [d1, d2, d3, d4, d5, d6, d7] }
  | _ => none }
def levyRawRow : OpenClaim := { program := "ytmiamdnhofjifaa", sum := "994198a822899760ad89f6f9acc92cc4d844864338a2b39ccbf1a5dc09b5c104", func := "haberdash/haberdashlaw19.LevyRaw", spec := "levyRaw", unfollowed := true, recurses := true, named := ["math/bits.divideError", "math/bits.overflowError"], apart := false }
def LevyRawSaid : Prop := levyRawRow.holds Try.pinned (OpenSpec.ofChange levyRawSpec)

/-- ITS FALSE NEIGHBOUR: 'it returns false'. Refute it at one input. -/
def levyRawWrong : ChangeSpec := { name := "levyRaw", fn := fun _ => fun
  | [d1, d2, d3, d4, d5, d6, d7] => { results := [.lit (.bool false)], args := [d1, d2, d3, d4, d5, d6, d7] }
  | _ => none }
def LevyRawWrongFalsely : Prop := levyRawRow.holds Try.pinned (OpenSpec.ofChange levyRawWrong)

/-- 'haberdashlaw19.LevyAll': WHATEVER THE INPUT: true; the input reads as it did. -/
def levyAllSpec : ChangeSpec := { name := "levyAll", fn := fun _ => fun
  | [d1, d2, d3, d4, d5, d6] => { results := [.lit (.bool true)], args := [d1, d2, d3, d4, d5, d6] }
  | _ => none }
def levyAllRow : OpenClaim := { program := "ytmiamdnhofjifaa", sum := "994198a822899760ad89f6f9acc92cc4d844864338a2b39ccbf1a5dc09b5c104", func := "haberdash/haberdashlaw19.LevyAll", spec := "levyAll", unfollowed := true, recurses := true, named := ["math/bits.divideError", "math/bits.overflowError"], apart := false }
def LevyAllSaid : Prop := levyAllRow.holds Try.pinned (OpenSpec.ofChange levyAllSpec)

/-- ITS FALSE NEIGHBOUR: 'it returns false'. Refute it at one input. -/
def levyAllWrong : ChangeSpec := { name := "levyAll", fn := fun _ => fun
  | [d1, d2, d3, d4, d5, d6] => { results := [.lit (.bool false)], args := [d1, d2, d3, d4, d5, d6] }
  | _ => none }
def LevyAllWrongFalsely : Prop := levyAllRow.holds Try.pinned (OpenSpec.ofChange levyAllWrong)

/- THE SECOND FORM. 'bulk': how many values and letters a reading holds, each counted each time it is reached (what is shared counts as often as it is met; a slice's spare places count too). A statement '..UptoSaid' is the law's where the arguments, and the package variables that the reading takes, are together of bulk at most 1048576: NARROWER than '..Said'. Prove '..Said' where nothing that the law and all that it calls make is longer than what came in: it says more and counts as full. Else prove '..UptoSaid'. A law counts once. -/
mutual
def uptoBulk {H : Type} : DataW H → Nat
  | .lit (.string bytes) => bytes.length + 1
  | .lit _ => 1
  | .nil => 1
  | .ptr d => uptoBulk d + 1
  | .slice elems spare => uptoBulkAll elems + uptoBulkAll spare + 1
  | .agg parts => uptoBulkAll parts + 1
  | .iface _ d => uptoBulk d + 1
  | .map entries => uptoBulkEntries entries + 1
  | .held _ => 1
def uptoBulkAll {H : Type} : List (DataW H) → Nat
  | [] => 0
  | d :: r => uptoBulk d + uptoBulkAll r
def uptoBulkEntries {H : Type} : List (Lit × DataW H) → Nat
  | [] => 0
  | x :: r => uptoBulkEntry x + uptoBulkEntries r
def uptoBulkEntry {H : Type} : Lit × DataW H → Nat
  | (.string bytes, d) => bytes.length + uptoBulk d + 1
  | (_, d) => uptoBulk d + 1
 end
def uptoSmall : (H : Type) → List (DataW H) → Bool := fun _ ds => decide (uptoBulkAll ds ≤ 1048576)
def OpenSpec.upto (s : _root_.Go.ChangeSpec) : _root_.Go.OpenSpec := { _root_.Go.OpenSpec.ofChange s with cond := some uptoSmall }

/-- 'haberdashlaw19.LevyRaw', WHERE WHAT IT READS IS OF BULK AT MOST 1048576: true; the input reads as it did. -/
def levyRawUptoRow : OpenClaim := { program := "ytmiamdnhofjifaa", sum := "994198a822899760ad89f6f9acc92cc4d844864338a2b39ccbf1a5dc09b5c104", func := "haberdash/haberdashlaw19.LevyRaw", spec := "levyRaw", unfollowed := true, recurses := true, named := ["math/bits.divideError", "math/bits.overflowError"], apart := false, narrowed := true }
def LevyRawUptoSaid : Prop := levyRawUptoRow.holds Try.pinned (OpenSpec.upto levyRawSpec)

/-- 'haberdashlaw19.LevyAll', WHERE WHAT IT READS IS OF BULK AT MOST 1048576: true; the input reads as it did. -/
def levyAllUptoRow : OpenClaim := { program := "ytmiamdnhofjifaa", sum := "994198a822899760ad89f6f9acc92cc4d844864338a2b39ccbf1a5dc09b5c104", func := "haberdash/haberdashlaw19.LevyAll", spec := "levyAll", unfollowed := true, recurses := true, named := ["math/bits.divideError", "math/bits.overflowError"], apart := false, narrowed := true }
def LevyAllUptoSaid : Prop := levyAllUptoRow.holds Try.pinned (OpenSpec.upto levyAllSpec)

end Rows
end Go.Proofs.Ytmiamdnhofjifaa
