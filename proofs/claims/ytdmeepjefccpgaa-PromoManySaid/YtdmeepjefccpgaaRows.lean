/-
  No cell of these rows narrows 'for every input' (looked for: loops, veiled, ifaces, maps, wideKeys, modest, calm, conditions, laid).
  DERIVED. THE GIVEN ROWS OF THIS SEAT. 8 by the template 'for every input the law returns true; each argument reads behind the call as it read before'; 0 by the template 'total and deterministic' (their statements: YtdmeepjefccpgaaTotals.lean).
  GIVEN WITH THE SEED: the statements are not yours to turn. If you find one false, say at which input.
  Laid BY PROGRAM, IN A SANDBOX (cutbox-rows.mjs): the forced cells as the released guide's own fill.sh prints them over the translation ca15bd45a9239524… (all of the seat's roots in one cut). By AI agents, Wed Nov 11 2026. No macro, syntax, notation, axiom, sorry.
-/
import Derived.Test.YtdmeepjefccpgaaChecked
import GoSem.Claim
import GoSem.ClaimJoined
import GoSem.ClaimMapViews
import Derived.JoinedTies
import Derived.KernelRfl
namespace Go.Proofs.Ytdmeepjefccpgaa
/- THE CELL 'sum', in the pinned program and in every row, IS THE sha256 OF THE DUMP (.gsa) THAT YtdmeepjefccpgaaProg.lean LOADS. Nothing in Lean hashes anything: it is a label: what it is worth is what the hold of that sum in a sandbox is worth. -/
noncomputable def Try.pinned : Pinned := { name := "ytdmeepjefccpgaa", sum := "ca15bd45a9239524038b4fa5360fd6751d61f094e5b7ba34d148774a95e5b905", checked := Try.checked }
namespace Rows
def none {H : Type} : Left H := { results := [], args := [] }

/-- 'haberdashlaw13.RulesRight': WHATEVER THE INPUT: true; the input reads as it did. -/
def rulesRightSpec : ChangeSpec := { name := "rulesRight", fn := fun _ => fun
  | [d1, d2] => { results := [.lit (.bool true)], args := [d1, d2] }
  | _ => none }
def rulesRightRow : OpenClaim := { program := "ytdmeepjefccpgaa", sum := "ca15bd45a9239524038b4fa5360fd6751d61f094e5b7ba34d148774a95e5b905", func := "haberdash/haberdashlaw13.RulesRight", spec := "rulesRight", unfollowed := true, recurses := true, apart := false }
def RulesRightSaid : Prop := rulesRightRow.holds Try.pinned (OpenSpec.ofChange rulesRightSpec)

/-- ITS FALSE NEIGHBOUR: 'it returns false'. Refute it at one input. -/
def rulesRightWrong : ChangeSpec := { name := "rulesRight", fn := fun _ => fun
  | [d1, d2] => { results := [.lit (.bool false)], args := [d1, d2] }
  | _ => none }
def RulesRightWrongFalsely : Prop := rulesRightRow.holds Try.pinned (OpenSpec.ofChange rulesRightWrong)

/-- 'haberdashlaw13.RulesZones': WHATEVER THE INPUT: true; the input reads as it did. -/
def rulesZonesSpec : ChangeSpec := { name := "rulesZones", fn := fun _ => fun
  | [d1, d2, d3, d4] => { results := [.lit (.bool true)], args := [d1, d2, d3, d4] }
  | _ => none }
def rulesZonesRow : OpenClaim := { program := "ytdmeepjefccpgaa", sum := "ca15bd45a9239524038b4fa5360fd6751d61f094e5b7ba34d148774a95e5b905", func := "haberdash/haberdashlaw13.RulesZones", spec := "rulesZones", unfollowed := true, recurses := true, apart := false }
def RulesZonesSaid : Prop := rulesZonesRow.holds Try.pinned (OpenSpec.ofChange rulesZonesSpec)

/-- ITS FALSE NEIGHBOUR: 'it returns false'. Refute it at one input. -/
def rulesZonesWrong : ChangeSpec := { name := "rulesZones", fn := fun _ => fun
  | [d1, d2, d3, d4] => { results := [.lit (.bool false)], args := [d1, d2, d3, d4] }
  | _ => none }
def RulesZonesWrongFalsely : Prop := rulesZonesRow.holds Try.pinned (OpenSpec.ofChange rulesZonesWrong)

/-- 'haberdashlaw13.RulesMany': WHATEVER THE INPUT: true; the input reads as it did. -/
def rulesManySpec : ChangeSpec := { name := "rulesMany", fn := fun _ => fun
  | [d] => { results := [.lit (.bool true)], args := [d] }
  | _ => none }
def rulesManyRow : OpenClaim := { program := "ytdmeepjefccpgaa", sum := "ca15bd45a9239524038b4fa5360fd6751d61f094e5b7ba34d148774a95e5b905", func := "haberdash/haberdashlaw13.RulesMany", spec := "rulesMany", unfollowed := true, recurses := true, apart := false }
def RulesManySaid : Prop := rulesManyRow.holds Try.pinned (OpenSpec.ofChange rulesManySpec)

/-- ITS FALSE NEIGHBOUR: 'it returns false'. Refute it at one input. -/
def rulesManyWrong : ChangeSpec := { name := "rulesMany", fn := fun _ => fun
  | [d] => { results := [.lit (.bool false)], args := [d] }
  | _ => none }
def RulesManyWrongFalsely : Prop := rulesManyRow.holds Try.pinned (OpenSpec.ofChange rulesManyWrong)

/-- 'haberdashlaw12.PromoRight': WHATEVER THE INPUT: true; the input reads as it did. -/
def promoRightSpec : ChangeSpec := { name := "promoRight", fn := fun _ => fun
  | [d1, d2, d3] => { results := [.lit (.bool true)], args := [d1, d2, d3] }
  | _ => none }
def promoRightRow : OpenClaim := { program := "ytdmeepjefccpgaa", sum := "ca15bd45a9239524038b4fa5360fd6751d61f094e5b7ba34d148774a95e5b905", func := "haberdash/haberdashlaw12.PromoRight", spec := "promoRight", unfollowed := true, recurses := true, apart := false }
def PromoRightSaid : Prop := promoRightRow.holds Try.pinned (OpenSpec.ofChange promoRightSpec)

/-- ITS FALSE NEIGHBOUR: 'it returns false'. Refute it at one input. -/
def promoRightWrong : ChangeSpec := { name := "promoRight", fn := fun _ => fun
  | [d1, d2, d3] => { results := [.lit (.bool false)], args := [d1, d2, d3] }
  | _ => none }
def PromoRightWrongFalsely : Prop := promoRightRow.holds Try.pinned (OpenSpec.ofChange promoRightWrong)

/-- 'haberdashlaw12.PromoTurned': WHATEVER THE INPUT: true; the input reads as it did. -/
def promoTurnedSpec : ChangeSpec := { name := "promoTurned", fn := fun _ => fun
  | [d1, d2, d3, d4] => { results := [.lit (.bool true)], args := [d1, d2, d3, d4] }
  | _ => none }
def promoTurnedRow : OpenClaim := { program := "ytdmeepjefccpgaa", sum := "ca15bd45a9239524038b4fa5360fd6751d61f094e5b7ba34d148774a95e5b905", func := "haberdash/haberdashlaw12.PromoTurned", spec := "promoTurned", unfollowed := true, recurses := true, apart := false }
def PromoTurnedSaid : Prop := promoTurnedRow.holds Try.pinned (OpenSpec.ofChange promoTurnedSpec)

/-- ITS FALSE NEIGHBOUR: 'it returns false'. Refute it at one input. -/
def promoTurnedWrong : ChangeSpec := { name := "promoTurned", fn := fun _ => fun
  | [d1, d2, d3, d4] => { results := [.lit (.bool false)], args := [d1, d2, d3, d4] }
  | _ => none }
def PromoTurnedWrongFalsely : Prop := promoTurnedRow.holds Try.pinned (OpenSpec.ofChange promoTurnedWrong)

/-- 'haberdashlaw12.PromoOrders': WHATEVER THE INPUT: true; the input reads as it did. -/
def promoOrdersSpec : ChangeSpec := { name := "promoOrders", fn := fun _ => fun
  | [d1, d2, d3] => { results := [.lit (.bool true)], args := [d1, d2, d3] }
  | _ => none }
def promoOrdersRow : OpenClaim := { program := "ytdmeepjefccpgaa", sum := "ca15bd45a9239524038b4fa5360fd6751d61f094e5b7ba34d148774a95e5b905", func := "haberdash/haberdashlaw12.PromoOrders", spec := "promoOrders", unfollowed := true, recurses := true, apart := false }
def PromoOrdersSaid : Prop := promoOrdersRow.holds Try.pinned (OpenSpec.ofChange promoOrdersSpec)

/-- ITS FALSE NEIGHBOUR: 'it returns false'. Refute it at one input. -/
def promoOrdersWrong : ChangeSpec := { name := "promoOrders", fn := fun _ => fun
  | [d1, d2, d3] => { results := [.lit (.bool false)], args := [d1, d2, d3] }
  | _ => none }
def PromoOrdersWrongFalsely : Prop := promoOrdersRow.holds Try.pinned (OpenSpec.ofChange promoOrdersWrong)

/-- 'haberdashlaw12.PromoMore': WHATEVER THE INPUT: true; the input reads as it did. -/
def promoMoreSpec : ChangeSpec := { name := "promoMore", fn := fun _ => fun
  | [d1, d2] => { results := [.lit (.bool true)], args := [d1, d2] }
  | _ => none }
def promoMoreRow : OpenClaim := { program := "ytdmeepjefccpgaa", sum := "ca15bd45a9239524038b4fa5360fd6751d61f094e5b7ba34d148774a95e5b905", func := "haberdash/haberdashlaw12.PromoMore", spec := "promoMore", unfollowed := true, recurses := true, apart := false }
def PromoMoreSaid : Prop := promoMoreRow.holds Try.pinned (OpenSpec.ofChange promoMoreSpec)

/-- ITS FALSE NEIGHBOUR: 'it returns false'. Refute it at one input. -/
def promoMoreWrong : ChangeSpec := { name := "promoMore", fn := fun _ => fun
  | [d1, d2] => { results := [.lit (.bool false)], args := [d1, d2] }
  | _ => none }
def PromoMoreWrongFalsely : Prop := promoMoreRow.holds Try.pinned (OpenSpec.ofChange promoMoreWrong)

/-- 'haberdashlaw12.PromoMany': WHATEVER THE INPUT: true; the input reads as it did. -/
def promoManySpec : ChangeSpec := { name := "promoMany", fn := fun _ => fun
  | [d1, d2] => { results := [.lit (.bool true)], args := [d1, d2] }
  | _ => none }
def promoManyRow : OpenClaim := { program := "ytdmeepjefccpgaa", sum := "ca15bd45a9239524038b4fa5360fd6751d61f094e5b7ba34d148774a95e5b905", func := "haberdash/haberdashlaw12.PromoMany", spec := "promoMany", unfollowed := true, recurses := true, apart := false }
def PromoManySaid : Prop := promoManyRow.holds Try.pinned (OpenSpec.ofChange promoManySpec)

/-- ITS FALSE NEIGHBOUR: 'it returns false'. Refute it at one input. -/
def promoManyWrong : ChangeSpec := { name := "promoMany", fn := fun _ => fun
  | [d1, d2] => { results := [.lit (.bool false)], args := [d1, d2] }
  | _ => none }
def PromoManyWrongFalsely : Prop := promoManyRow.holds Try.pinned (OpenSpec.ofChange promoManyWrong)

/- THE SECOND FORM. 'bulk': how many values and letters a reading holds, each counted each time it is reached (what is shared counts as often as it is met; a slice's spare places count too). A statement '..UptoSaid' is the law's where the arguments, and the package variables that the reading takes, are together of bulk at most 1048576: NARROWER than '..Said'. Prove '..Said' where nothing that the law and all that it calls make is longer than what came in: it says more and counts as full. Else prove '..UptoSaid'. A law counts once. -/
mutual
def uptoBulk {H : Type} : DataW H → Nat
  | .lit (.string bytes) => bytes.length + 1
  | .lit _ => 1
  | .nil => 1
  | .ptr d => uptoBulk d + 1
  | .slice elems spare => uptoBulkAll elems + uptoBulkAll spare + 1
  | .agg parts => uptoBulkAll parts + 1
  | .iface _ d => uptoBulk d + 1
  | .map entries => uptoBulkEntries entries + 1
  | .held _ => 1
def uptoBulkAll {H : Type} : List (DataW H) → Nat
  | [] => 0
  | d :: r => uptoBulk d + uptoBulkAll r
def uptoBulkEntries {H : Type} : List (Lit × DataW H) → Nat
  | [] => 0
  | x :: r => uptoBulkEntry x + uptoBulkEntries r
def uptoBulkEntry {H : Type} : Lit × DataW H → Nat
  | (.string bytes, d) => bytes.length + uptoBulk d + 1
  | (_, d) => uptoBulk d + 1
 end
def uptoSmall : (H : Type) → List (DataW H) → Bool := fun _ ds => decide (uptoBulkAll ds ≤ 1048576)
def OpenSpec.upto (s : _root_.Go.ChangeSpec) : _root_.Go.OpenSpec := { _root_.Go.OpenSpec.ofChange s with cond := some uptoSmall }

/-- 'haberdashlaw13.RulesRight', WHERE WHAT IT READS IS OF BULK AT MOST 1048576: true; the input reads as it did. -/
def rulesRightUptoRow : OpenClaim := { program := "ytdmeepjefccpgaa", sum := "ca15bd45a9239524038b4fa5360fd6751d61f094e5b7ba34d148774a95e5b905", func := "haberdash/haberdashlaw13.RulesRight", spec := "rulesRight", unfollowed := true, recurses := true, apart := false, narrowed := true }
def RulesRightUptoSaid : Prop := rulesRightUptoRow.holds Try.pinned (OpenSpec.upto rulesRightSpec)

/-- 'haberdashlaw13.RulesZones', WHERE WHAT IT READS IS OF BULK AT MOST 1048576: true; the input reads as it did. -/
def rulesZonesUptoRow : OpenClaim := { program := "ytdmeepjefccpgaa", sum := "ca15bd45a9239524038b4fa5360fd6751d61f094e5b7ba34d148774a95e5b905", func := "haberdash/haberdashlaw13.RulesZones", spec := "rulesZones", unfollowed := true, recurses := true, apart := false, narrowed := true }
def RulesZonesUptoSaid : Prop := rulesZonesUptoRow.holds Try.pinned (OpenSpec.upto rulesZonesSpec)

/-- 'haberdashlaw13.RulesMany', WHERE WHAT IT READS IS OF BULK AT MOST 1048576: true; the input reads as it did. -/
def rulesManyUptoRow : OpenClaim := { program := "ytdmeepjefccpgaa", sum := "ca15bd45a9239524038b4fa5360fd6751d61f094e5b7ba34d148774a95e5b905", func := "haberdash/haberdashlaw13.RulesMany", spec := "rulesMany", unfollowed := true, recurses := true, apart := false, narrowed := true }
def RulesManyUptoSaid : Prop := rulesManyUptoRow.holds Try.pinned (OpenSpec.upto rulesManySpec)

/-- 'haberdashlaw12.PromoRight', WHERE WHAT IT READS IS OF BULK AT MOST 1048576: true; the input reads as it did. -/
def promoRightUptoRow : OpenClaim := { program := "ytdmeepjefccpgaa", sum := "ca15bd45a9239524038b4fa5360fd6751d61f094e5b7ba34d148774a95e5b905", func := "haberdash/haberdashlaw12.PromoRight", spec := "promoRight", unfollowed := true, recurses := true, apart := false, narrowed := true }
def PromoRightUptoSaid : Prop := promoRightUptoRow.holds Try.pinned (OpenSpec.upto promoRightSpec)

/-- 'haberdashlaw12.PromoTurned', WHERE WHAT IT READS IS OF BULK AT MOST 1048576: true; the input reads as it did. -/
def promoTurnedUptoRow : OpenClaim := { program := "ytdmeepjefccpgaa", sum := "ca15bd45a9239524038b4fa5360fd6751d61f094e5b7ba34d148774a95e5b905", func := "haberdash/haberdashlaw12.PromoTurned", spec := "promoTurned", unfollowed := true, recurses := true, apart := false, narrowed := true }
def PromoTurnedUptoSaid : Prop := promoTurnedUptoRow.holds Try.pinned (OpenSpec.upto promoTurnedSpec)

/-- 'haberdashlaw12.PromoOrders', WHERE WHAT IT READS IS OF BULK AT MOST 1048576: true; the input reads as it did. -/
def promoOrdersUptoRow : OpenClaim := { program := "ytdmeepjefccpgaa", sum := "ca15bd45a9239524038b4fa5360fd6751d61f094e5b7ba34d148774a95e5b905", func := "haberdash/haberdashlaw12.PromoOrders", spec := "promoOrders", unfollowed := true, recurses := true, apart := false, narrowed := true }
def PromoOrdersUptoSaid : Prop := promoOrdersUptoRow.holds Try.pinned (OpenSpec.upto promoOrdersSpec)

/-- 'haberdashlaw12.PromoMore', WHERE WHAT IT READS IS OF BULK AT MOST 1048576: true; the input reads as it did. -/
def promoMoreUptoRow : OpenClaim := { program := "ytdmeepjefccpgaa", sum := "ca15bd45a9239524038b4fa5360fd6751d61f094e5b7ba34d148774a95e5b905", func := "haberdash/haberdashlaw12.PromoMore", spec := "promoMore", unfollowed := true, recurses := true, apart := false, narrowed := true }
def PromoMoreUptoSaid : Prop := promoMoreUptoRow.holds Try.pinned (OpenSpec.upto promoMoreSpec)

/-- 'haberdashlaw12.PromoMany', WHERE WHAT IT READS IS OF BULK AT MOST 1048576: true; the input reads as it did. -/
def promoManyUptoRow : OpenClaim := { program := "ytdmeepjefccpgaa", sum := "ca15bd45a9239524038b4fa5360fd6751d61f094e5b7ba34d148774a95e5b905", func := "haberdash/haberdashlaw12.PromoMany", spec := "promoMany", unfollowed := true, recurses := true, apart := false, narrowed := true }
def PromoManyUptoSaid : Prop := promoManyUptoRow.holds Try.pinned (OpenSpec.upto promoManySpec)

end Rows
end Go.Proofs.Ytdmeepjefccpgaa
