/-
  No cell of these rows narrows 'for every input' (looked for: loops, veiled, ifaces, maps, wideKeys, modest, calm, conditions, laid).
  DERIVED. THE GIVEN ROWS OF THIS SEAT. 12 by the template 'for every input the law returns true; each argument reads behind the call as it read before'; 0 by the template 'total and deterministic' (their statements: YtpmilnjjgcohhaaTotals.lean).
  GIVEN WITH THE SEED: the statements are not yours to turn. If you find one false, say at which input.
  Laid BY PROGRAM, IN A SANDBOX (cutbox-rows.mjs): the forced cells as the released guide's own fill.sh prints them over the translation fd00686276287d71… (all of the seat's roots in one cut). By AI agents, Wed Nov 11 2026. No macro, syntax, notation, axiom, sorry.
-/
import Derived.Test.YtpmilnjjgcohhaaChecked
import GoSem.Claim
import GoSem.ClaimJoined
import GoSem.ClaimMapViews
import Derived.JoinedTies
import Derived.KernelRfl
namespace Go.Proofs.Ytpmilnjjgcohhaa
/- THE CELL 'sum', in the pinned program and in every row, IS THE sha256 OF THE DUMP (.gsa) THAT YtpmilnjjgcohhaaProg.lean LOADS. Nothing in Lean hashes anything: it is a label: what it is worth is what the hold of that sum in a sandbox is worth. -/
noncomputable def Try.pinned : Pinned := { name := "ytpmilnjjgcohhaa", sum := "fd00686276287d71e66ec4be7db06dda056ef0eb410d7065556f386545279de6", checked := Try.checked }
namespace Rows
def none {H : Type} : Left H := { results := [], args := [] }

/-- 'laws.FnExactConstants': WHATEVER THE INPUT: true; the input reads as it did. -/
def fnExactConstantsSpec : ChangeSpec := { name := "fnExactConstants", fn := fun _ => fun
  | [] => { results := [.lit (.bool true)], args := [] }
  | _ => none }
def fnExactConstantsRow : OpenClaim := { program := "ytpmilnjjgcohhaa", sum := "fd00686276287d71e66ec4be7db06dda056ef0eb410d7065556f386545279de6", func := "loop.example/g01159/laws.FnExactConstants", spec := "fnExactConstants", apart := false }
def FnExactConstantsSaid : Prop := fnExactConstantsRow.holds Try.pinned (OpenSpec.ofChange fnExactConstantsSpec)

/-- ITS FALSE NEIGHBOUR: 'it returns false'. Refute it at one input. -/
def fnExactConstantsWrong : ChangeSpec := { name := "fnExactConstants", fn := fun _ => fun
  | [] => { results := [.lit (.bool false)], args := [] }
  | _ => none }
def FnExactConstantsWrongFalsely : Prop := fnExactConstantsRow.holds Try.pinned (OpenSpec.ofChange fnExactConstantsWrong)

/-- 'laws.FnExactLessString': WHATEVER THE INPUT: true; the input reads as it did. -/
def fnExactLessStringSpec : ChangeSpec := { name := "fnExactLessString", fn := fun _ => fun
  | [d1, d2] => { results := [.lit (.bool true)], args := [d1, d2] }
  | _ => none }
def fnExactLessStringRow : OpenClaim := { program := "ytpmilnjjgcohhaa", sum := "fd00686276287d71e66ec4be7db06dda056ef0eb410d7065556f386545279de6", func := "loop.example/g01159/laws.FnExactLessString", spec := "fnExactLessString", apart := false }
def FnExactLessStringSaid : Prop := fnExactLessStringRow.holds Try.pinned (OpenSpec.ofChange fnExactLessStringSpec)

/-- ITS FALSE NEIGHBOUR: 'it returns false'. Refute it at one input. -/
def fnExactLessStringWrong : ChangeSpec := { name := "fnExactLessString", fn := fun _ => fun
  | [d1, d2] => { results := [.lit (.bool false)], args := [d1, d2] }
  | _ => none }
def FnExactLessStringWrongFalsely : Prop := fnExactLessStringRow.holds Try.pinned (OpenSpec.ofChange fnExactLessStringWrong)

/-- 'laws.FnExactChecksum': WHATEVER THE INPUT: true; the input reads as it did. -/
def fnExactChecksumSpec : ChangeSpec := { name := "fnExactChecksum", fn := fun _ => fun
  | [d] => { results := [.lit (.bool true)], args := [d] }
  | _ => none }
def fnExactChecksumRow : OpenClaim := { program := "ytpmilnjjgcohhaa", sum := "fd00686276287d71e66ec4be7db06dda056ef0eb410d7065556f386545279de6", func := "loop.example/g01159/laws.FnExactChecksum", spec := "fnExactChecksum", apart := false }
def FnExactChecksumSaid : Prop := fnExactChecksumRow.holds Try.pinned (OpenSpec.ofChange fnExactChecksumSpec)

/-- ITS FALSE NEIGHBOUR: 'it returns false'. Refute it at one input. -/
def fnExactChecksumWrong : ChangeSpec := { name := "fnExactChecksum", fn := fun _ => fun
  | [d] => { results := [.lit (.bool false)], args := [d] }
  | _ => none }
def FnExactChecksumWrongFalsely : Prop := fnExactChecksumRow.holds Try.pinned (OpenSpec.ofChange fnExactChecksumWrong)

/-- 'laws.FnExactWeighingsNeeded': WHATEVER THE INPUT: true; the input reads as it did. -/
def fnExactWeighingsNeededSpec : ChangeSpec := { name := "fnExactWeighingsNeeded", fn := fun _ => fun
  | [d] => { results := [.lit (.bool true)], args := [d] }
  | _ => none }
def fnExactWeighingsNeededRow : OpenClaim := { program := "ytpmilnjjgcohhaa", sum := "fd00686276287d71e66ec4be7db06dda056ef0eb410d7065556f386545279de6", func := "loop.example/g01159/laws.FnExactWeighingsNeeded", spec := "fnExactWeighingsNeeded", apart := false }
def FnExactWeighingsNeededSaid : Prop := fnExactWeighingsNeededRow.holds Try.pinned (OpenSpec.ofChange fnExactWeighingsNeededSpec)

/-- ITS FALSE NEIGHBOUR: 'it returns false'. Refute it at one input. -/
def fnExactWeighingsNeededWrong : ChangeSpec := { name := "fnExactWeighingsNeeded", fn := fun _ => fun
  | [d] => { results := [.lit (.bool false)], args := [d] }
  | _ => none }
def FnExactWeighingsNeededWrongFalsely : Prop := fnExactWeighingsNeededRow.holds Try.pinned (OpenSpec.ofChange fnExactWeighingsNeededWrong)

/-- 'laws.FnExactIsKit': WHATEVER THE INPUT: true; the input reads as it did. -/
def fnExactIsKitSpec : ChangeSpec := { name := "fnExactIsKit", fn := fun _ => fun
  | [d] => { results := [.lit (.bool true)], args := [d] }
  | _ => none }
def fnExactIsKitRow : OpenClaim := { program := "ytpmilnjjgcohhaa", sum := "fd00686276287d71e66ec4be7db06dda056ef0eb410d7065556f386545279de6", func := "loop.example/g01159/laws.FnExactIsKit", spec := "fnExactIsKit", apart := false }
def FnExactIsKitSaid : Prop := fnExactIsKitRow.holds Try.pinned (OpenSpec.ofChange fnExactIsKitSpec)

/-- ITS FALSE NEIGHBOUR: 'it returns false'. Refute it at one input. -/
def fnExactIsKitWrong : ChangeSpec := { name := "fnExactIsKit", fn := fun _ => fun
  | [d] => { results := [.lit (.bool false)], args := [d] }
  | _ => none }
def FnExactIsKitWrongFalsely : Prop := fnExactIsKitRow.holds Try.pinned (OpenSpec.ofChange fnExactIsKitWrong)

/-- 'laws.FnExactThreesKit': WHATEVER THE INPUT: true; the input reads as it did. -/
def fnExactThreesKitSpec : ChangeSpec := { name := "fnExactThreesKit", fn := fun _ => fun
  | [d] => { results := [.lit (.bool true)], args := [d] }
  | _ => none }
def fnExactThreesKitRow : OpenClaim := { program := "ytpmilnjjgcohhaa", sum := "fd00686276287d71e66ec4be7db06dda056ef0eb410d7065556f386545279de6", func := "loop.example/g01159/laws.FnExactThreesKit", spec := "fnExactThreesKit", apart := false }
def FnExactThreesKitSaid : Prop := fnExactThreesKitRow.holds Try.pinned (OpenSpec.ofChange fnExactThreesKitSpec)

/-- ITS FALSE NEIGHBOUR: 'it returns false'. Refute it at one input. -/
def fnExactThreesKitWrong : ChangeSpec := { name := "fnExactThreesKit", fn := fun _ => fun
  | [d] => { results := [.lit (.bool false)], args := [d] }
  | _ => none }
def FnExactThreesKitWrongFalsely : Prop := fnExactThreesKitRow.holds Try.pinned (OpenSpec.ofChange fnExactThreesKitWrong)

/-- 'laws.FnExactTwosKit': WHATEVER THE INPUT: true; the input reads as it did. -/
def fnExactTwosKitSpec : ChangeSpec := { name := "fnExactTwosKit", fn := fun _ => fun
  | [d] => { results := [.lit (.bool true)], args := [d] }
  | _ => none }
def fnExactTwosKitRow : OpenClaim := { program := "ytpmilnjjgcohhaa", sum := "fd00686276287d71e66ec4be7db06dda056ef0eb410d7065556f386545279de6", func := "loop.example/g01159/laws.FnExactTwosKit", spec := "fnExactTwosKit", apart := false }
def FnExactTwosKitSaid : Prop := fnExactTwosKitRow.holds Try.pinned (OpenSpec.ofChange fnExactTwosKitSpec)

/-- ITS FALSE NEIGHBOUR: 'it returns false'. Refute it at one input. -/
def fnExactTwosKitWrong : ChangeSpec := { name := "fnExactTwosKit", fn := fun _ => fun
  | [d] => { results := [.lit (.bool false)], args := [d] }
  | _ => none }
def FnExactTwosKitWrongFalsely : Prop := fnExactTwosKitRow.holds Try.pinned (OpenSpec.ofChange fnExactTwosKitWrong)

/-- 'laws.FnExactIsRow': WHATEVER THE INPUT: true; the input reads as it did. -/
def fnExactIsRowSpec : ChangeSpec := { name := "fnExactIsRow", fn := fun _ => fun
  | [d] => { results := [.lit (.bool true)], args := [d] }
  | _ => none }
def fnExactIsRowRow : OpenClaim := { program := "ytpmilnjjgcohhaa", sum := "fd00686276287d71e66ec4be7db06dda056ef0eb410d7065556f386545279de6", func := "loop.example/g01159/laws.FnExactIsRow", spec := "fnExactIsRow", unfollowed := true, recurses := true, apart := false }
def FnExactIsRowSaid : Prop := fnExactIsRowRow.holds Try.pinned (OpenSpec.ofChange fnExactIsRowSpec)

/-- ITS FALSE NEIGHBOUR: 'it returns false'. Refute it at one input. -/
def fnExactIsRowWrong : ChangeSpec := { name := "fnExactIsRow", fn := fun _ => fun
  | [d] => { results := [.lit (.bool false)], args := [d] }
  | _ => none }
def FnExactIsRowWrongFalsely : Prop := fnExactIsRowRow.holds Try.pinned (OpenSpec.ofChange fnExactIsRowWrong)

/-- 'laws.FnExactMomentAbout': WHATEVER THE INPUT: true; the input reads as it did. -/
def fnExactMomentAboutSpec : ChangeSpec := { name := "fnExactMomentAbout", fn := fun _ => fun
  | [d1, d2] => { results := [.lit (.bool true)], args := [d1, d2] }
  | _ => none }
def fnExactMomentAboutRow : OpenClaim := { program := "ytpmilnjjgcohhaa", sum := "fd00686276287d71e66ec4be7db06dda056ef0eb410d7065556f386545279de6", func := "loop.example/g01159/laws.FnExactMomentAbout", spec := "fnExactMomentAbout", unfollowed := true, recurses := true, apart := false }
def FnExactMomentAboutSaid : Prop := fnExactMomentAboutRow.holds Try.pinned (OpenSpec.ofChange fnExactMomentAboutSpec)

/-- ITS FALSE NEIGHBOUR: 'it returns false'. Refute it at one input. -/
def fnExactMomentAboutWrong : ChangeSpec := { name := "fnExactMomentAbout", fn := fun _ => fun
  | [d1, d2] => { results := [.lit (.bool false)], args := [d1, d2] }
  | _ => none }
def FnExactMomentAboutWrongFalsely : Prop := fnExactMomentAboutRow.holds Try.pinned (OpenSpec.ofChange fnExactMomentAboutWrong)

/-- 'laws.FnExactWeightOf': WHATEVER THE INPUT: true; the input reads as it did. -/
def fnExactWeightOfSpec : ChangeSpec := { name := "fnExactWeightOf", fn := fun _ => fun
  | [d] => { results := [.lit (.bool true)], args := [d] }
  | _ => none }
def fnExactWeightOfRow : OpenClaim := { program := "ytpmilnjjgcohhaa", sum := "fd00686276287d71e66ec4be7db06dda056ef0eb410d7065556f386545279de6", func := "loop.example/g01159/laws.FnExactWeightOf", spec := "fnExactWeightOf", unfollowed := true, recurses := true, apart := false }
def FnExactWeightOfSaid : Prop := fnExactWeightOfRow.holds Try.pinned (OpenSpec.ofChange fnExactWeightOfSpec)

/-- ITS FALSE NEIGHBOUR: 'it returns false'. Refute it at one input. -/
def fnExactWeightOfWrong : ChangeSpec := { name := "fnExactWeightOf", fn := fun _ => fun
  | [d] => { results := [.lit (.bool false)], args := [d] }
  | _ => none }
def FnExactWeightOfWrongFalsely : Prop := fnExactWeightOfRow.holds Try.pinned (OpenSpec.ofChange fnExactWeightOfWrong)

/-- 'laws.FnExactNarrowBase': WHATEVER THE INPUT: true; the input reads as it did. -/
def fnExactNarrowBaseSpec : ChangeSpec := { name := "fnExactNarrowBase", fn := fun _ => fun
  | [d] => { results := [.lit (.bool true)], args := [d] }
  | _ => none }
def fnExactNarrowBaseRow : OpenClaim := { program := "ytpmilnjjgcohhaa", sum := "fd00686276287d71e66ec4be7db06dda056ef0eb410d7065556f386545279de6", func := "loop.example/g01159/laws.FnExactNarrowBase", spec := "fnExactNarrowBase", unfollowed := true, recurses := true, apart := false }
def FnExactNarrowBaseSaid : Prop := fnExactNarrowBaseRow.holds Try.pinned (OpenSpec.ofChange fnExactNarrowBaseSpec)

/-- ITS FALSE NEIGHBOUR: 'it returns false'. Refute it at one input. -/
def fnExactNarrowBaseWrong : ChangeSpec := { name := "fnExactNarrowBase", fn := fun _ => fun
  | [d] => { results := [.lit (.bool false)], args := [d] }
  | _ => none }
def FnExactNarrowBaseWrongFalsely : Prop := fnExactNarrowBaseRow.holds Try.pinned (OpenSpec.ofChange fnExactNarrowBaseWrong)

/-- 'laws.FnExactTipSide': WHATEVER THE INPUT: true; the input reads as it did. -/
def fnExactTipSideSpec : ChangeSpec := { name := "fnExactTipSide", fn := fun _ => fun
  | [d1, d2, d3] => { results := [.lit (.bool true)], args := [d1, d2, d3] }
  | _ => none }
def fnExactTipSideRow : OpenClaim := { program := "ytpmilnjjgcohhaa", sum := "fd00686276287d71e66ec4be7db06dda056ef0eb410d7065556f386545279de6", func := "loop.example/g01159/laws.FnExactTipSide", spec := "fnExactTipSide", unfollowed := true, recurses := true, apart := false }
def FnExactTipSideSaid : Prop := fnExactTipSideRow.holds Try.pinned (OpenSpec.ofChange fnExactTipSideSpec)

/-- ITS FALSE NEIGHBOUR: 'it returns false'. Refute it at one input. -/
def fnExactTipSideWrong : ChangeSpec := { name := "fnExactTipSide", fn := fun _ => fun
  | [d1, d2, d3] => { results := [.lit (.bool false)], args := [d1, d2, d3] }
  | _ => none }
def FnExactTipSideWrongFalsely : Prop := fnExactTipSideRow.holds Try.pinned (OpenSpec.ofChange fnExactTipSideWrong)

/- THE SECOND FORM. 'bulk': how many values and letters a reading holds, each counted each time it is reached (what is shared counts as often as it is met; a slice's spare places count too). A statement '..UptoSaid' is the law's where the arguments, and the package variables that the reading takes, are together of bulk at most 1048576: NARROWER than '..Said'. Prove '..Said' where nothing that the law and all that it calls make is longer than what came in: it says more and counts as full. Else prove '..UptoSaid'. A law counts once. -/
mutual
def uptoBulk {H : Type} : DataW H → Nat
  | .lit (.string bytes) => bytes.length + 1
  | .lit _ => 1
  | .nil => 1
  | .ptr d => uptoBulk d + 1
  | .slice elems spare => uptoBulkAll elems + uptoBulkAll spare + 1
  | .agg parts => uptoBulkAll parts + 1
  | .iface _ d => uptoBulk d + 1
  | .map entries => uptoBulkEntries entries + 1
  | .held _ => 1
def uptoBulkAll {H : Type} : List (DataW H) → Nat
  | [] => 0
  | d :: r => uptoBulk d + uptoBulkAll r
def uptoBulkEntries {H : Type} : List (Lit × DataW H) → Nat
  | [] => 0
  | x :: r => uptoBulkEntry x + uptoBulkEntries r
def uptoBulkEntry {H : Type} : Lit × DataW H → Nat
  | (.string bytes, d) => bytes.length + uptoBulk d + 1
  | (_, d) => uptoBulk d + 1
 end
def uptoSmall : (H : Type) → List (DataW H) → Bool := fun _ ds => decide (uptoBulkAll ds ≤ 1048576)
def OpenSpec.upto (s : _root_.Go.ChangeSpec) : _root_.Go.OpenSpec := { _root_.Go.OpenSpec.ofChange s with cond := some uptoSmall }

/-- 'laws.FnExactConstants', WHERE WHAT IT READS IS OF BULK AT MOST 1048576: true; the input reads as it did. -/
def fnExactConstantsUptoRow : OpenClaim := { program := "ytpmilnjjgcohhaa", sum := "fd00686276287d71e66ec4be7db06dda056ef0eb410d7065556f386545279de6", func := "loop.example/g01159/laws.FnExactConstants", spec := "fnExactConstants", apart := false, narrowed := true }
def FnExactConstantsUptoSaid : Prop := fnExactConstantsUptoRow.holds Try.pinned (OpenSpec.upto fnExactConstantsSpec)

/-- 'laws.FnExactLessString', WHERE WHAT IT READS IS OF BULK AT MOST 1048576: true; the input reads as it did. -/
def fnExactLessStringUptoRow : OpenClaim := { program := "ytpmilnjjgcohhaa", sum := "fd00686276287d71e66ec4be7db06dda056ef0eb410d7065556f386545279de6", func := "loop.example/g01159/laws.FnExactLessString", spec := "fnExactLessString", apart := false, narrowed := true }
def FnExactLessStringUptoSaid : Prop := fnExactLessStringUptoRow.holds Try.pinned (OpenSpec.upto fnExactLessStringSpec)

/-- 'laws.FnExactChecksum', WHERE WHAT IT READS IS OF BULK AT MOST 1048576: true; the input reads as it did. -/
def fnExactChecksumUptoRow : OpenClaim := { program := "ytpmilnjjgcohhaa", sum := "fd00686276287d71e66ec4be7db06dda056ef0eb410d7065556f386545279de6", func := "loop.example/g01159/laws.FnExactChecksum", spec := "fnExactChecksum", apart := false, narrowed := true }
def FnExactChecksumUptoSaid : Prop := fnExactChecksumUptoRow.holds Try.pinned (OpenSpec.upto fnExactChecksumSpec)

/-- 'laws.FnExactWeighingsNeeded', WHERE WHAT IT READS IS OF BULK AT MOST 1048576: true; the input reads as it did. -/
def fnExactWeighingsNeededUptoRow : OpenClaim := { program := "ytpmilnjjgcohhaa", sum := "fd00686276287d71e66ec4be7db06dda056ef0eb410d7065556f386545279de6", func := "loop.example/g01159/laws.FnExactWeighingsNeeded", spec := "fnExactWeighingsNeeded", apart := false, narrowed := true }
def FnExactWeighingsNeededUptoSaid : Prop := fnExactWeighingsNeededUptoRow.holds Try.pinned (OpenSpec.upto fnExactWeighingsNeededSpec)

/-- 'laws.FnExactIsKit', WHERE WHAT IT READS IS OF BULK AT MOST 1048576: true; the input reads as it did. -/
def fnExactIsKitUptoRow : OpenClaim := { program := "ytpmilnjjgcohhaa", sum := "fd00686276287d71e66ec4be7db06dda056ef0eb410d7065556f386545279de6", func := "loop.example/g01159/laws.FnExactIsKit", spec := "fnExactIsKit", apart := false, narrowed := true }
def FnExactIsKitUptoSaid : Prop := fnExactIsKitUptoRow.holds Try.pinned (OpenSpec.upto fnExactIsKitSpec)

/-- 'laws.FnExactThreesKit', WHERE WHAT IT READS IS OF BULK AT MOST 1048576: true; the input reads as it did. -/
def fnExactThreesKitUptoRow : OpenClaim := { program := "ytpmilnjjgcohhaa", sum := "fd00686276287d71e66ec4be7db06dda056ef0eb410d7065556f386545279de6", func := "loop.example/g01159/laws.FnExactThreesKit", spec := "fnExactThreesKit", apart := false, narrowed := true }
def FnExactThreesKitUptoSaid : Prop := fnExactThreesKitUptoRow.holds Try.pinned (OpenSpec.upto fnExactThreesKitSpec)

/-- 'laws.FnExactTwosKit', WHERE WHAT IT READS IS OF BULK AT MOST 1048576: true; the input reads as it did. -/
def fnExactTwosKitUptoRow : OpenClaim := { program := "ytpmilnjjgcohhaa", sum := "fd00686276287d71e66ec4be7db06dda056ef0eb410d7065556f386545279de6", func := "loop.example/g01159/laws.FnExactTwosKit", spec := "fnExactTwosKit", apart := false, narrowed := true }
def FnExactTwosKitUptoSaid : Prop := fnExactTwosKitUptoRow.holds Try.pinned (OpenSpec.upto fnExactTwosKitSpec)

/-- 'laws.FnExactIsRow', WHERE WHAT IT READS IS OF BULK AT MOST 1048576: true; the input reads as it did. -/
def fnExactIsRowUptoRow : OpenClaim := { program := "ytpmilnjjgcohhaa", sum := "fd00686276287d71e66ec4be7db06dda056ef0eb410d7065556f386545279de6", func := "loop.example/g01159/laws.FnExactIsRow", spec := "fnExactIsRow", unfollowed := true, recurses := true, apart := false, narrowed := true }
def FnExactIsRowUptoSaid : Prop := fnExactIsRowUptoRow.holds Try.pinned (OpenSpec.upto fnExactIsRowSpec)

/-- 'laws.FnExactMomentAbout', WHERE WHAT IT READS IS OF BULK AT MOST 1048576: true; the input reads as it did. -/
def fnExactMomentAboutUptoRow : OpenClaim := { program := "ytpmilnjjgcohhaa", sum := "fd00686276287d71e66ec4be7db06dda056ef0eb410d7065556f386545279de6", func := "loop.example/g01159/laws.FnExactMomentAbout", spec := "fnExactMomentAbout", unfollowed := true, recurses := true, apart := false, narrowed := true }
def FnExactMomentAboutUptoSaid : Prop := fnExactMomentAboutUptoRow.holds Try.pinned (OpenSpec.upto fnExactMomentAboutSpec)

/-- 'laws.FnExactWeightOf', WHERE WHAT IT READS IS OF BULK AT MOST 1048576: true; the input reads as it did. -/
def fnExactWeightOfUptoRow : OpenClaim := { program := "ytpmilnjjgcohhaa", sum := "fd00686276287d71e66ec4be7db06dda056ef0eb410d7065556f386545279de6", func := "loop.example/g01159/laws.FnExactWeightOf", spec := "fnExactWeightOf", unfollowed := true, recurses := true, apart := false, narrowed := true }
def FnExactWeightOfUptoSaid : Prop := fnExactWeightOfUptoRow.holds Try.pinned (OpenSpec.upto fnExactWeightOfSpec)

/-- 'laws.FnExactNarrowBase', WHERE WHAT IT READS IS OF BULK AT MOST 1048576: true; the input reads as it did. -/
def fnExactNarrowBaseUptoRow : OpenClaim := { program := "ytpmilnjjgcohhaa", sum := "fd00686276287d71e66ec4be7db06dda056ef0eb410d7065556f386545279de6", func := "loop.example/g01159/laws.FnExactNarrowBase", spec := "fnExactNarrowBase", unfollowed := true, recurses := true, apart := false, narrowed := true }
def FnExactNarrowBaseUptoSaid : Prop := fnExactNarrowBaseUptoRow.holds Try.pinned (OpenSpec.upto fnExactNarrowBaseSpec)

/-- 'laws.FnExactTipSide', WHERE WHAT IT READS IS OF BULK AT MOST 1048576: true; the input reads as it did. -/
def fnExactTipSideUptoRow : OpenClaim := { program := "ytpmilnjjgcohhaa", sum := "fd00686276287d71e66ec4be7db06dda056ef0eb410d7065556f386545279de6", func := "loop.example/g01159/laws.FnExactTipSide", spec := "fnExactTipSide", unfollowed := true, recurses := true, apart := false, narrowed := true }
def FnExactTipSideUptoSaid : Prop := fnExactTipSideUptoRow.holds Try.pinned (OpenSpec.upto fnExactTipSideSpec)

end Rows
end Go.Proofs.Ytpmilnjjgcohhaa
