/-
  One step of a long division by halves of a word, and the whole: plain numbers, no program in sight.
-/
namespace Go.Proofs.Ytebochcdbknodaa.DV

/-- Half a word. -/
abbrev H : Int := 4294967296

end Go.Proofs.Ytebochcdbknodaa.DV
