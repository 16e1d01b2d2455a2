/-
  No cell of these rows narrows 'for every input' (looked for: loops, veiled, ifaces, maps, wideKeys, modest, calm, conditions, laid).
  DERIVED. THE GIVEN ROWS OF THIS SEAT. 5 by the template 'for every input the law returns true; each argument reads behind the call as it read before'; 0 by the template 'total and deterministic' (their statements: YtebochcdbknodaaTotals.lean).
  GIVEN WITH THE SEED: the statements are not yours to turn. If you find one false, say at which input.
  Laid BY PROGRAM, IN A SANDBOX (cutbox-rows.mjs): the forced cells as the released guide's own fill.sh prints them over the translation 512c81fc5f85239b… (all of the seat's roots in one cut). By AI agents, Wed Nov 11 2026. No macro, syntax, notation, axiom, sorry.
-/
import Derived.Test.YtebochcdbknodaaChecked
import GoSem.Claim
import GoSem.ClaimJoined
import GoSem.ClaimMapViews
import Derived.JoinedTies
import Derived.KernelRfl
namespace Go.Proofs.Ytebochcdbknodaa
/- THE CELL 'sum', in the pinned program and in every row, IS THE sha256 OF THE DUMP (.gsa) THAT YtebochcdbknodaaProg.lean LOADS. Nothing in Lean hashes anything: it is a label: what it is worth is what the hold of that sum in a sandbox is worth. -/
noncomputable def Try.pinned : Pinned := { name := "ytebochcdbknodaa", sum := "512c81fc5f85239bb6fce092a0e32c6f3dc1f19f33aa87663a5942fd9328dcf0", checked := Try.checked }
namespace Rows
def none {H : Type} : Left H := { results := [], args := [] }

/-- 'haberdashlaw22.TenderSplits': WHATEVER THE INPUT: true; the input reads as it did. -/
def tenderSplitsSpec : ChangeSpec := { name := "tenderSplits", fn := fun _ => fun
  | [d1, d2, d3, d4] => { results := [.lit (.bool true)], args := [d1, d2, d3, d4] }
  | _ => none }
def tenderSplitsRow : OpenClaim := { program := "ytebochcdbknodaa", sum := "512c81fc5f85239bb6fce092a0e32c6f3dc1f19f33aa87663a5942fd9328dcf0", func := "haberdash/haberdashlaw22.TenderSplits", spec := "tenderSplits", unfollowed := true, recurses := true, apart := false }
def TenderSplitsSaid : Prop := tenderSplitsRow.holds Try.pinned (OpenSpec.ofChange tenderSplitsSpec)

/-- ITS FALSE NEIGHBOUR: 'it returns false'. Refute it at one input. -/
def tenderSplitsWrong : ChangeSpec := { name := "tenderSplits", fn := fun _ => fun
  | [d1, d2, d3, d4] => { results := [.lit (.bool false)], args := [d1, d2, d3, d4] }
  | _ => none }
def TenderSplitsWrongFalsely : Prop := tenderSplitsRow.holds Try.pinned (OpenSpec.ofChange tenderSplitsWrong)

/-- 'haberdashlaw22.TenderGreatest': WHATEVER THE INPUT: true; the input reads as it did. -/
def tenderGreatestSpec : ChangeSpec := { name := "tenderGreatest", fn := fun _ => fun
  | [d1, d2, d3] => { results := [.lit (.bool true)], args := [d1, d2, d3] }
  | _ => none }
def tenderGreatestRow : OpenClaim := { program := "ytebochcdbknodaa", sum := "512c81fc5f85239bb6fce092a0e32c6f3dc1f19f33aa87663a5942fd9328dcf0", func := "haberdash/haberdashlaw22.TenderGreatest", spec := "tenderGreatest", unfollowed := true, recurses := true, apart := false }
def TenderGreatestSaid : Prop := tenderGreatestRow.holds Try.pinned (OpenSpec.ofChange tenderGreatestSpec)

/-- ITS FALSE NEIGHBOUR: 'it returns false'. Refute it at one input. -/
def tenderGreatestWrong : ChangeSpec := { name := "tenderGreatest", fn := fun _ => fun
  | [d1, d2, d3] => { results := [.lit (.bool false)], args := [d1, d2, d3] }
  | _ => none }
def TenderGreatestWrongFalsely : Prop := tenderGreatestRow.holds Try.pinned (OpenSpec.ofChange tenderGreatestWrong)

/-- 'haberdashlaw22.TenderParts': WHATEVER THE INPUT: true; the input reads as it did. -/
def tenderPartsSpec : ChangeSpec := { name := "tenderParts", fn := fun _ => fun
  | [d1, d2, d3, d4, d5] => { results := [.lit (.bool true)], args := [d1, d2, d3, d4, d5] }
  | _ => none }
def tenderPartsRow : OpenClaim := { program := "ytebochcdbknodaa", sum := "512c81fc5f85239bb6fce092a0e32c6f3dc1f19f33aa87663a5942fd9328dcf0", func := "haberdash/haberdashlaw22.TenderParts", spec := "tenderParts", unfollowed := true, recurses := true, apart := false }
def TenderPartsSaid : Prop := tenderPartsRow.holds Try.pinned (OpenSpec.ofChange tenderPartsSpec)

/-- ITS FALSE NEIGHBOUR: 'it returns false'. Refute it at one input. -/
def tenderPartsWrong : ChangeSpec := { name := "tenderParts", fn := fun _ => fun
  | [d1, d2, d3, d4, d5] => { results := [.lit (.bool false)], args := [d1, d2, d3, d4, d5] }
  | _ => none }
def TenderPartsWrongFalsely : Prop := tenderPartsRow.holds Try.pinned (OpenSpec.ofChange tenderPartsWrong)

/-- 'haberdashlaw22.TenderTakes': WHATEVER THE INPUT: true; the input reads as it did. -/
def tenderTakesSpec : ChangeSpec := { name := "tenderTakes", fn := fun _ => fun
  | [d1, d2, d3] => { results := [.lit (.bool true)], args := [d1, d2, d3] }
  | _ => none }
def tenderTakesRow : OpenClaim := { program := "ytebochcdbknodaa", sum := "512c81fc5f85239bb6fce092a0e32c6f3dc1f19f33aa87663a5942fd9328dcf0", func := "haberdash/haberdashlaw22.TenderTakes", spec := "tenderTakes", unfollowed := true, recurses := true, apart := false }
def TenderTakesSaid : Prop := tenderTakesRow.holds Try.pinned (OpenSpec.ofChange tenderTakesSpec)

/-- ITS FALSE NEIGHBOUR: 'it returns false'. Refute it at one input. -/
def tenderTakesWrong : ChangeSpec := { name := "tenderTakes", fn := fun _ => fun
  | [d1, d2, d3] => { results := [.lit (.bool false)], args := [d1, d2, d3] }
  | _ => none }
def TenderTakesWrongFalsely : Prop := tenderTakesRow.holds Try.pinned (OpenSpec.ofChange tenderTakesWrong)

/-- 'haberdashlaw03.ShareFair': WHATEVER THE INPUT: true; the input reads as it did. -/
def shareFairSpec : ChangeSpec := { name := "shareFair", fn := fun _ => fun
  | [d1, d2] => { results := [.lit (.bool true)], args := [d1, d2] }
  | _ => none }
def shareFairRow : OpenClaim := { program := "ytebochcdbknodaa", sum := "512c81fc5f85239bb6fce092a0e32c6f3dc1f19f33aa87663a5942fd9328dcf0", func := "haberdash/haberdashlaw03.ShareFair", spec := "shareFair", unfollowed := true, recurses := true, named := ["math/bits.divideError", "math/bits.overflowError"], apart := false }
def ShareFairSaid : Prop := shareFairRow.holds Try.pinned (OpenSpec.ofChange shareFairSpec)

/-- ITS FALSE NEIGHBOUR: 'it returns false'. Refute it at one input. -/
def shareFairWrong : ChangeSpec := { name := "shareFair", fn := fun _ => fun
  | [d1, d2] => { results := [.lit (.bool false)], args := [d1, d2] }
  | _ => none }
def ShareFairWrongFalsely : Prop := shareFairRow.holds Try.pinned (OpenSpec.ofChange shareFairWrong)

/- THE SECOND FORM. 'bulk': how many values and letters a reading holds, each counted each time it is reached (what is shared counts as often as it is met; a slice's spare places count too). A statement '..UptoSaid' is the law's where the arguments, and the package variables that the reading takes, are together of bulk at most 1048576: NARROWER than '..Said'. Prove '..Said' where nothing that the law and all that it calls make is longer than what came in: it says more and counts as full. Else prove '..UptoSaid'. A law counts once. -/
mutual
def uptoBulk {H : Type} : DataW H → Nat
  | .lit (.string bytes) => bytes.length + 1
  | .lit _ => 1
  | .nil => 1
  | .ptr d => uptoBulk d + 1
  | .slice elems spare => uptoBulkAll elems + uptoBulkAll spare + 1
  | .agg parts => uptoBulkAll parts + 1
  | .iface _ d => uptoBulk d + 1
  | .map entries => uptoBulkEntries entries + 1
  | .held _ => 1
def uptoBulkAll {H : Type} : List (DataW H) → Nat
  | [] => 0
  | d :: r => uptoBulk d + uptoBulkAll r
def uptoBulkEntries {H : Type} : List (Lit × DataW H) → Nat
  | [] => 0
  | x :: r => uptoBulkEntry x + uptoBulkEntries r
def uptoBulkEntry {H : Type} : Lit × DataW H → Nat
  | (.string bytes, d) => bytes.length + uptoBulk d + 1
  | (_, d) => uptoBulk d + 1
 end
def uptoSmall : (H : Type) → List (DataW H) → Bool := fun _ ds => decide (uptoBulkAll ds ≤ 1048576)
def OpenSpec.upto (s : _root_.Go.ChangeSpec) : _root_.Go.OpenSpec := { _root_.Go.OpenSpec.ofChange s with cond := some uptoSmall }

/-- 'haberdashlaw22.TenderSplits', WHERE WHAT IT READS IS OF BULK AT MOST 1048576: true; the input reads as it did. -/
def tenderSplitsUptoRow : OpenClaim := { program := "ytebochcdbknodaa", sum := "512c81fc5f85239bb6fce092a0e32c6f3dc1f19f33aa87663a5942fd9328dcf0", func := "haberdash/haberdashlaw22.TenderSplits", spec := "tenderSplits", unfollowed := true, recurses := true, apart := false, narrowed := true }
def TenderSplitsUptoSaid : Prop := tenderSplitsUptoRow.holds Try.pinned (OpenSpec.upto tenderSplitsSpec)

/-- 'haberdashlaw22.TenderGreatest', WHERE WHAT IT READS IS OF BULK AT MOST 1048576: true; the input reads as it did. -/
def tenderGreatestUptoRow : OpenClaim := { program := "ytebochcdbknodaa", sum := "512c81fc5f85239bb6fce092a0e32c6f3dc1f19f33aa87663a5942fd9328dcf0", func := "haberdash/haberdashlaw22.TenderGreatest", spec := "tenderGreatest", unfollowed := true, recurses := true, apart := false, narrowed := true }
def TenderGreatestUptoSaid : Prop := tenderGreatestUptoRow.holds Try.pinned (OpenSpec.upto tenderGreatestSpec)

/-- 'haberdashlaw22.TenderParts', WHERE WHAT IT READS IS OF BULK AT MOST 1048576: true; the input reads as it did. -/
def tenderPartsUptoRow : OpenClaim := { program := "ytebochcdbknodaa", sum := "512c81fc5f85239bb6fce092a0e32c6f3dc1f19f33aa87663a5942fd9328dcf0", func := "haberdash/haberdashlaw22.TenderParts", spec := "tenderParts", unfollowed := true, recurses := true, apart := false, narrowed := true }
def TenderPartsUptoSaid : Prop := tenderPartsUptoRow.holds Try.pinned (OpenSpec.upto tenderPartsSpec)

/-- 'haberdashlaw22.TenderTakes', WHERE WHAT IT READS IS OF BULK AT MOST 1048576: true; the input reads as it did. -/
def tenderTakesUptoRow : OpenClaim := { program := "ytebochcdbknodaa", sum := "512c81fc5f85239bb6fce092a0e32c6f3dc1f19f33aa87663a5942fd9328dcf0", func := "haberdash/haberdashlaw22.TenderTakes", spec := "tenderTakes", unfollowed := true, recurses := true, apart := false, narrowed := true }
def TenderTakesUptoSaid : Prop := tenderTakesUptoRow.holds Try.pinned (OpenSpec.upto tenderTakesSpec)

/-- 'haberdashlaw03.ShareFair', WHERE WHAT IT READS IS OF BULK AT MOST 1048576: true; the input reads as it did. -/
def shareFairUptoRow : OpenClaim := { program := "ytebochcdbknodaa", sum := "512c81fc5f85239bb6fce092a0e32c6f3dc1f19f33aa87663a5942fd9328dcf0", func := "haberdash/haberdashlaw03.ShareFair", spec := "shareFair", unfollowed := true, recurses := true, named := ["math/bits.divideError", "math/bits.overflowError"], apart := false, narrowed := true }
def ShareFairUptoSaid : Prop := shareFairUptoRow.holds Try.pinned (OpenSpec.upto shareFairSpec)

end Rows
end Go.Proofs.Ytebochcdbknodaa
