/-
  No cell of these rows narrows 'for every input' (looked for: loops, veiled, ifaces, maps, wideKeys, modest, calm, conditions, laid).
  DERIVED. THE GIVEN ROWS OF THIS SEAT. 12 by the template 'for every input the law returns true; each argument reads behind the call as it read before'; 0 by the template 'total and deterministic' (their statements: YtgllfieaiededaaTotals.lean).
  GIVEN WITH THE SEED: the statements are not yours to turn. If you find one false, say at which input.
  Laid BY PROGRAM, IN A SANDBOX (cutbox-rows.mjs): the forced cells as the released guide's own fill.sh prints them over the translation a8248e7282d71adf… (all of the seat's roots in one cut). By AI agents, Wed Nov 11 2026. No macro, syntax, notation, axiom, sorry.
-/
import Derived.Test.YtgllfieaiededaaChecked
import GoSem.Claim
import GoSem.ClaimJoined
import GoSem.ClaimMapViews
import Derived.JoinedTies
import Derived.KernelRfl
namespace Go.Proofs.Ytgllfieaiededaa
/- THE CELL 'sum', in the pinned program and in every row, IS THE sha256 OF THE DUMP (.gsa) THAT YtgllfieaiededaaProg.lean LOADS. Nothing in Lean hashes anything: it is a label: what it is worth is what the hold of that sum in a sandbox is worth. -/
noncomputable def Try.pinned : Pinned := { name := "ytgllfieaiededaa", sum := "a8248e7282d71adf6c845db6416edec1474f2fd217991c8d27cfe99861af138f", checked := Try.checked }
namespace Rows
def none {H : Type} : Left H := { results := [], args := [] }

/-- 'laws.FnExactIsPile': WHATEVER THE INPUT: true; the input reads as it did. -/
def fnExactIsPileSpec : ChangeSpec := { name := "fnExactIsPile", fn := fun _ => fun
  | [d] => { results := [.lit (.bool true)], args := [d] }
  | _ => none }
def fnExactIsPileRow : OpenClaim := { program := "ytgllfieaiededaa", sum := "a8248e7282d71adf6c845db6416edec1474f2fd217991c8d27cfe99861af138f", func := "loop.example/g01159/laws.FnExactIsPile", spec := "fnExactIsPile", apart := false }
def FnExactIsPileSaid : Prop := fnExactIsPileRow.holds Try.pinned (OpenSpec.ofChange fnExactIsPileSpec)

/-- ITS FALSE NEIGHBOUR: 'it returns false'. Refute it at one input. -/
def fnExactIsPileWrong : ChangeSpec := { name := "fnExactIsPile", fn := fun _ => fun
  | [d] => { results := [.lit (.bool false)], args := [d] }
  | _ => none }
def FnExactIsPileWrongFalsely : Prop := fnExactIsPileRow.holds Try.pinned (OpenSpec.ofChange fnExactIsPileWrong)

/-- 'laws.FnExactIsCoinPlan': WHATEVER THE INPUT: true; the input reads as it did. -/
def fnExactIsCoinPlanSpec : ChangeSpec := { name := "fnExactIsCoinPlan", fn := fun _ => fun
  | [d1, d2] => { results := [.lit (.bool true)], args := [d1, d2] }
  | _ => none }
def fnExactIsCoinPlanRow : OpenClaim := { program := "ytgllfieaiededaa", sum := "a8248e7282d71adf6c845db6416edec1474f2fd217991c8d27cfe99861af138f", func := "loop.example/g01159/laws.FnExactIsCoinPlan", spec := "fnExactIsCoinPlan", apart := false }
def FnExactIsCoinPlanSaid : Prop := fnExactIsCoinPlanRow.holds Try.pinned (OpenSpec.ofChange fnExactIsCoinPlanSpec)

/-- ITS FALSE NEIGHBOUR: 'it returns false'. Refute it at one input. -/
def fnExactIsCoinPlanWrong : ChangeSpec := { name := "fnExactIsCoinPlan", fn := fun _ => fun
  | [d1, d2] => { results := [.lit (.bool false)], args := [d1, d2] }
  | _ => none }
def FnExactIsCoinPlanWrongFalsely : Prop := fnExactIsCoinPlanRow.holds Try.pinned (OpenSpec.ofChange fnExactIsCoinPlanWrong)

/-- 'laws.FnExactPanRow': WHATEVER THE INPUT: true; the input reads as it did. -/
def fnExactPanRowSpec : ChangeSpec := { name := "fnExactPanRow", fn := fun _ => fun
  | [d1, d2, d3] => { results := [.lit (.bool true)], args := [d1, d2, d3] }
  | _ => none }
def fnExactPanRowRow : OpenClaim := { program := "ytgllfieaiededaa", sum := "a8248e7282d71adf6c845db6416edec1474f2fd217991c8d27cfe99861af138f", func := "loop.example/g01159/laws.FnExactPanRow", spec := "fnExactPanRow", apart := false }
def FnExactPanRowSaid : Prop := fnExactPanRowRow.holds Try.pinned (OpenSpec.ofChange fnExactPanRowSpec)

/-- ITS FALSE NEIGHBOUR: 'it returns false'. Refute it at one input. -/
def fnExactPanRowWrong : ChangeSpec := { name := "fnExactPanRow", fn := fun _ => fun
  | [d1, d2, d3] => { results := [.lit (.bool false)], args := [d1, d2, d3] }
  | _ => none }
def FnExactPanRowWrongFalsely : Prop := fnExactPanRowRow.holds Try.pinned (OpenSpec.ofChange fnExactPanRowWrong)

/-- 'laws.FnExactMirrorRow': WHATEVER THE INPUT: true; the input reads as it did. -/
def fnExactMirrorRowSpec : ChangeSpec := { name := "fnExactMirrorRow", fn := fun _ => fun
  | [d] => { results := [.lit (.bool true)], args := [d] }
  | _ => none }
def fnExactMirrorRowRow : OpenClaim := { program := "ytgllfieaiededaa", sum := "a8248e7282d71adf6c845db6416edec1474f2fd217991c8d27cfe99861af138f", func := "loop.example/g01159/laws.FnExactMirrorRow", spec := "fnExactMirrorRow", unfollowed := true, recurses := true, apart := false }
def FnExactMirrorRowSaid : Prop := fnExactMirrorRowRow.holds Try.pinned (OpenSpec.ofChange fnExactMirrorRowSpec)

/-- ITS FALSE NEIGHBOUR: 'it returns false'. Refute it at one input. -/
def fnExactMirrorRowWrong : ChangeSpec := { name := "fnExactMirrorRow", fn := fun _ => fun
  | [d] => { results := [.lit (.bool false)], args := [d] }
  | _ => none }
def FnExactMirrorRowWrongFalsely : Prop := fnExactMirrorRowRow.holds Try.pinned (OpenSpec.ofChange fnExactMirrorRowWrong)

/-- 'laws.FnExactShiftRow': WHATEVER THE INPUT: true; the input reads as it did. -/
def fnExactShiftRowSpec : ChangeSpec := { name := "fnExactShiftRow", fn := fun _ => fun
  | [d1, d2] => { results := [.lit (.bool true)], args := [d1, d2] }
  | _ => none }
def fnExactShiftRowRow : OpenClaim := { program := "ytgllfieaiededaa", sum := "a8248e7282d71adf6c845db6416edec1474f2fd217991c8d27cfe99861af138f", func := "loop.example/g01159/laws.FnExactShiftRow", spec := "fnExactShiftRow", unfollowed := true, recurses := true, apart := false }
def FnExactShiftRowSaid : Prop := fnExactShiftRowRow.holds Try.pinned (OpenSpec.ofChange fnExactShiftRowSpec)

/-- ITS FALSE NEIGHBOUR: 'it returns false'. Refute it at one input. -/
def fnExactShiftRowWrong : ChangeSpec := { name := "fnExactShiftRow", fn := fun _ => fun
  | [d1, d2] => { results := [.lit (.bool false)], args := [d1, d2] }
  | _ => none }
def FnExactShiftRowWrongFalsely : Prop := fnExactShiftRowRow.holds Try.pinned (OpenSpec.ofChange fnExactShiftRowWrong)

/-- 'laws.FnExactReactionsOf': WHATEVER THE INPUT: true; the input reads as it did. -/
def fnExactReactionsOfSpec : ChangeSpec := { name := "fnExactReactionsOf", fn := fun _ => fun
  | [d1, d2, d3] => { results := [.lit (.bool true)], args := [d1, d2, d3] }
  | _ => none }
def fnExactReactionsOfRow : OpenClaim := { program := "ytgllfieaiededaa", sum := "a8248e7282d71adf6c845db6416edec1474f2fd217991c8d27cfe99861af138f", func := "loop.example/g01159/laws.FnExactReactionsOf", spec := "fnExactReactionsOf", unfollowed := true, recurses := true, apart := false }
def FnExactReactionsOfSaid : Prop := fnExactReactionsOfRow.holds Try.pinned (OpenSpec.ofChange fnExactReactionsOfSpec)

/-- ITS FALSE NEIGHBOUR: 'it returns false'. Refute it at one input. -/
def fnExactReactionsOfWrong : ChangeSpec := { name := "fnExactReactionsOf", fn := fun _ => fun
  | [d1, d2, d3] => { results := [.lit (.bool false)], args := [d1, d2, d3] }
  | _ => none }
def FnExactReactionsOfWrongFalsely : Prop := fnExactReactionsOfRow.holds Try.pinned (OpenSpec.ofChange fnExactReactionsOfWrong)

/-- 'laws.FnExactMostExtra': WHATEVER THE INPUT: true; the input reads as it did. -/
def fnExactMostExtraSpec : ChangeSpec := { name := "fnExactMostExtra", fn := fun _ => fun
  | [d1, d2, d3, d4] => { results := [.lit (.bool true)], args := [d1, d2, d3, d4] }
  | _ => none }
def fnExactMostExtraRow : OpenClaim := { program := "ytgllfieaiededaa", sum := "a8248e7282d71adf6c845db6416edec1474f2fd217991c8d27cfe99861af138f", func := "loop.example/g01159/laws.FnExactMostExtra", spec := "fnExactMostExtra", unfollowed := true, recurses := true, apart := false }
def FnExactMostExtraSaid : Prop := fnExactMostExtraRow.holds Try.pinned (OpenSpec.ofChange fnExactMostExtraSpec)

/-- ITS FALSE NEIGHBOUR: 'it returns false'. Refute it at one input. -/
def fnExactMostExtraWrong : ChangeSpec := { name := "fnExactMostExtra", fn := fun _ => fun
  | [d1, d2, d3, d4] => { results := [.lit (.bool false)], args := [d1, d2, d3, d4] }
  | _ => none }
def FnExactMostExtraWrongFalsely : Prop := fnExactMostExtraRow.holds Try.pinned (OpenSpec.ofChange fnExactMostExtraWrong)

/-- 'laws.FnExactMergeRow': WHATEVER THE INPUT: true; the input reads as it did. -/
def fnExactMergeRowSpec : ChangeSpec := { name := "fnExactMergeRow", fn := fun _ => fun
  | [d] => { results := [.lit (.bool true)], args := [d] }
  | _ => none }
def fnExactMergeRowRow : OpenClaim := { program := "ytgllfieaiededaa", sum := "a8248e7282d71adf6c845db6416edec1474f2fd217991c8d27cfe99861af138f", func := "loop.example/g01159/laws.FnExactMergeRow", spec := "fnExactMergeRow", unfollowed := true, recurses := true, apart := false }
def FnExactMergeRowSaid : Prop := fnExactMergeRowRow.holds Try.pinned (OpenSpec.ofChange fnExactMergeRowSpec)

/-- ITS FALSE NEIGHBOUR: 'it returns false'. Refute it at one input. -/
def fnExactMergeRowWrong : ChangeSpec := { name := "fnExactMergeRow", fn := fun _ => fun
  | [d] => { results := [.lit (.bool false)], args := [d] }
  | _ => none }
def FnExactMergeRowWrongFalsely : Prop := fnExactMergeRowRow.holds Try.pinned (OpenSpec.ofChange fnExactMergeRowWrong)

/-- 'laws.FnExactCentreOf': WHATEVER THE INPUT: true; the input reads as it did. -/
def fnExactCentreOfSpec : ChangeSpec := { name := "fnExactCentreOf", fn := fun _ => fun
  | [d] => { results := [.lit (.bool true)], args := [d] }
  | _ => none }
def fnExactCentreOfRow : OpenClaim := { program := "ytgllfieaiededaa", sum := "a8248e7282d71adf6c845db6416edec1474f2fd217991c8d27cfe99861af138f", func := "loop.example/g01159/laws.FnExactCentreOf", spec := "fnExactCentreOf", unfollowed := true, recurses := true, apart := false }
def FnExactCentreOfSaid : Prop := fnExactCentreOfRow.holds Try.pinned (OpenSpec.ofChange fnExactCentreOfSpec)

/-- ITS FALSE NEIGHBOUR: 'it returns false'. Refute it at one input. -/
def fnExactCentreOfWrong : ChangeSpec := { name := "fnExactCentreOf", fn := fun _ => fun
  | [d] => { results := [.lit (.bool false)], args := [d] }
  | _ => none }
def FnExactCentreOfWrongFalsely : Prop := fnExactCentreOfRow.holds Try.pinned (OpenSpec.ofChange fnExactCentreOfWrong)

/-- 'laws.FnExactJoinRows': WHATEVER THE INPUT: true; the input reads as it did. -/
def fnExactJoinRowsSpec : ChangeSpec := { name := "fnExactJoinRows", fn := fun _ => fun
  | [d1, d2] => { results := [.lit (.bool true)], args := [d1, d2] }
  | _ => none }
def fnExactJoinRowsRow : OpenClaim := { program := "ytgllfieaiededaa", sum := "a8248e7282d71adf6c845db6416edec1474f2fd217991c8d27cfe99861af138f", func := "loop.example/g01159/laws.FnExactJoinRows", spec := "fnExactJoinRows", unfollowed := true, recurses := true, apart := false }
def FnExactJoinRowsSaid : Prop := fnExactJoinRowsRow.holds Try.pinned (OpenSpec.ofChange fnExactJoinRowsSpec)

/-- ITS FALSE NEIGHBOUR: 'it returns false'. Refute it at one input. -/
def fnExactJoinRowsWrong : ChangeSpec := { name := "fnExactJoinRows", fn := fun _ => fun
  | [d1, d2] => { results := [.lit (.bool false)], args := [d1, d2] }
  | _ => none }
def FnExactJoinRowsWrongFalsely : Prop := fnExactJoinRowsRow.holds Try.pinned (OpenSpec.ofChange fnExactJoinRowsWrong)

/-- 'laws.FnExactLeastCounter': WHATEVER THE INPUT: true; the input reads as it did. -/
def fnExactLeastCounterSpec : ChangeSpec := { name := "fnExactLeastCounter", fn := fun _ => fun
  | [d1, d2, d3, d4] => { results := [.lit (.bool true)], args := [d1, d2, d3, d4] }
  | _ => none }
def fnExactLeastCounterRow : OpenClaim := { program := "ytgllfieaiededaa", sum := "a8248e7282d71adf6c845db6416edec1474f2fd217991c8d27cfe99861af138f", func := "loop.example/g01159/laws.FnExactLeastCounter", spec := "fnExactLeastCounter", unfollowed := true, recurses := true, apart := false }
def FnExactLeastCounterSaid : Prop := fnExactLeastCounterRow.holds Try.pinned (OpenSpec.ofChange fnExactLeastCounterSpec)

/-- ITS FALSE NEIGHBOUR: 'it returns false'. Refute it at one input. -/
def fnExactLeastCounterWrong : ChangeSpec := { name := "fnExactLeastCounter", fn := fun _ => fun
  | [d1, d2, d3, d4] => { results := [.lit (.bool false)], args := [d1, d2, d3, d4] }
  | _ => none }
def FnExactLeastCounterWrongFalsely : Prop := fnExactLeastCounterRow.holds Try.pinned (OpenSpec.ofChange fnExactLeastCounterWrong)

/-- 'laws.FnExactStandPlaces': WHATEVER THE INPUT: true; the input reads as it did. -/
def fnExactStandPlacesSpec : ChangeSpec := { name := "fnExactStandPlaces", fn := fun _ => fun
  | [d1, d2, d3, d4] => { results := [.lit (.bool true)], args := [d1, d2, d3, d4] }
  | _ => none }
def fnExactStandPlacesRow : OpenClaim := { program := "ytgllfieaiededaa", sum := "a8248e7282d71adf6c845db6416edec1474f2fd217991c8d27cfe99861af138f", func := "loop.example/g01159/laws.FnExactStandPlaces", spec := "fnExactStandPlaces", unfollowed := true, recurses := true, apart := false }
def FnExactStandPlacesSaid : Prop := fnExactStandPlacesRow.holds Try.pinned (OpenSpec.ofChange fnExactStandPlacesSpec)

/-- ITS FALSE NEIGHBOUR: 'it returns false'. Refute it at one input. -/
def fnExactStandPlacesWrong : ChangeSpec := { name := "fnExactStandPlaces", fn := fun _ => fun
  | [d1, d2, d3, d4] => { results := [.lit (.bool false)], args := [d1, d2, d3, d4] }
  | _ => none }
def FnExactStandPlacesWrongFalsely : Prop := fnExactStandPlacesRow.holds Try.pinned (OpenSpec.ofChange fnExactStandPlacesWrong)

/- THE SECOND FORM. 'bulk': how many values and letters a reading holds, each counted each time it is reached (what is shared counts as often as it is met; a slice's spare places count too). A statement '..UptoSaid' is the law's where the arguments, and the package variables that the reading takes, are together of bulk at most 1048576: NARROWER than '..Said'. Prove '..Said' where nothing that the law and all that it calls make is longer than what came in: it says more and counts as full. Else prove '..UptoSaid'. A law counts once. -/
mutual
def uptoBulk {H : Type} : DataW H → Nat
  | .lit (.string bytes) => bytes.length + 1
  | .lit _ => 1
  | .nil => 1
  | .ptr d => uptoBulk d + 1
  | .slice elems spare => uptoBulkAll elems + uptoBulkAll spare + 1
  | .agg parts => uptoBulkAll parts + 1
  | .iface _ d => uptoBulk d + 1
  | .map entries => uptoBulkEntries entries + 1
  | .held _ => 1
def uptoBulkAll {H : Type} : List (DataW H) → Nat
  | [] => 0
  | d :: r => uptoBulk d + uptoBulkAll r
def uptoBulkEntries {H : Type} : List (Lit × DataW H) → Nat
  | [] => 0
  | x :: r => uptoBulkEntry x + uptoBulkEntries r
def uptoBulkEntry {H : Type} : Lit × DataW H → Nat
  | (.string bytes, d) => bytes.length + uptoBulk d + 1
  | (_, d) => uptoBulk d + 1
 end
def uptoSmall : (H : Type) → List (DataW H) → Bool := fun _ ds => decide (uptoBulkAll ds ≤ 1048576)
def OpenSpec.upto (s : _root_.Go.ChangeSpec) : _root_.Go.OpenSpec := { _root_.Go.OpenSpec.ofChange s with cond := some uptoSmall }

/-- 'laws.FnExactIsPile', WHERE WHAT IT READS IS OF BULK AT MOST 1048576: true; the input reads as it did. -/
def fnExactIsPileUptoRow : OpenClaim := { program := "ytgllfieaiededaa", sum := "a8248e7282d71adf6c845db6416edec1474f2fd217991c8d27cfe99861af138f", func := "loop.example/g01159/laws.FnExactIsPile", spec := "fnExactIsPile", apart := false, narrowed := true }
def FnExactIsPileUptoSaid : Prop := fnExactIsPileUptoRow.holds Try.pinned (OpenSpec.upto fnExactIsPileSpec)

/-- 'laws.FnExactIsCoinPlan', WHERE WHAT IT READS IS OF BULK AT MOST 1048576: true; the input reads as it did. -/
def fnExactIsCoinPlanUptoRow : OpenClaim := { program := "ytgllfieaiededaa", sum := "a8248e7282d71adf6c845db6416edec1474f2fd217991c8d27cfe99861af138f", func := "loop.example/g01159/laws.FnExactIsCoinPlan", spec := "fnExactIsCoinPlan", apart := false, narrowed := true }
def FnExactIsCoinPlanUptoSaid : Prop := fnExactIsCoinPlanUptoRow.holds Try.pinned (OpenSpec.upto fnExactIsCoinPlanSpec)

/-- 'laws.FnExactPanRow', WHERE WHAT IT READS IS OF BULK AT MOST 1048576: true; the input reads as it did. -/
def fnExactPanRowUptoRow : OpenClaim := { program := "ytgllfieaiededaa", sum := "a8248e7282d71adf6c845db6416edec1474f2fd217991c8d27cfe99861af138f", func := "loop.example/g01159/laws.FnExactPanRow", spec := "fnExactPanRow", apart := false, narrowed := true }
def FnExactPanRowUptoSaid : Prop := fnExactPanRowUptoRow.holds Try.pinned (OpenSpec.upto fnExactPanRowSpec)

/-- 'laws.FnExactMirrorRow', WHERE WHAT IT READS IS OF BULK AT MOST 1048576: true; the input reads as it did. -/
def fnExactMirrorRowUptoRow : OpenClaim := { program := "ytgllfieaiededaa", sum := "a8248e7282d71adf6c845db6416edec1474f2fd217991c8d27cfe99861af138f", func := "loop.example/g01159/laws.FnExactMirrorRow", spec := "fnExactMirrorRow", unfollowed := true, recurses := true, apart := false, narrowed := true }
def FnExactMirrorRowUptoSaid : Prop := fnExactMirrorRowUptoRow.holds Try.pinned (OpenSpec.upto fnExactMirrorRowSpec)

/-- 'laws.FnExactShiftRow', WHERE WHAT IT READS IS OF BULK AT MOST 1048576: true; the input reads as it did. -/
def fnExactShiftRowUptoRow : OpenClaim := { program := "ytgllfieaiededaa", sum := "a8248e7282d71adf6c845db6416edec1474f2fd217991c8d27cfe99861af138f", func := "loop.example/g01159/laws.FnExactShiftRow", spec := "fnExactShiftRow", unfollowed := true, recurses := true, apart := false, narrowed := true }
def FnExactShiftRowUptoSaid : Prop := fnExactShiftRowUptoRow.holds Try.pinned (OpenSpec.upto fnExactShiftRowSpec)

/-- 'laws.FnExactReactionsOf', WHERE WHAT IT READS IS OF BULK AT MOST 1048576: true; the input reads as it did. -/
def fnExactReactionsOfUptoRow : OpenClaim := { program := "ytgllfieaiededaa", sum := "a8248e7282d71adf6c845db6416edec1474f2fd217991c8d27cfe99861af138f", func := "loop.example/g01159/laws.FnExactReactionsOf", spec := "fnExactReactionsOf", unfollowed := true, recurses := true, apart := false, narrowed := true }
def FnExactReactionsOfUptoSaid : Prop := fnExactReactionsOfUptoRow.holds Try.pinned (OpenSpec.upto fnExactReactionsOfSpec)

/-- 'laws.FnExactMostExtra', WHERE WHAT IT READS IS OF BULK AT MOST 1048576: true; the input reads as it did. -/
def fnExactMostExtraUptoRow : OpenClaim := { program := "ytgllfieaiededaa", sum := "a8248e7282d71adf6c845db6416edec1474f2fd217991c8d27cfe99861af138f", func := "loop.example/g01159/laws.FnExactMostExtra", spec := "fnExactMostExtra", unfollowed := true, recurses := true, apart := false, narrowed := true }
def FnExactMostExtraUptoSaid : Prop := fnExactMostExtraUptoRow.holds Try.pinned (OpenSpec.upto fnExactMostExtraSpec)

/-- 'laws.FnExactMergeRow', WHERE WHAT IT READS IS OF BULK AT MOST 1048576: true; the input reads as it did. -/
def fnExactMergeRowUptoRow : OpenClaim := { program := "ytgllfieaiededaa", sum := "a8248e7282d71adf6c845db6416edec1474f2fd217991c8d27cfe99861af138f", func := "loop.example/g01159/laws.FnExactMergeRow", spec := "fnExactMergeRow", unfollowed := true, recurses := true, apart := false, narrowed := true }
def FnExactMergeRowUptoSaid : Prop := fnExactMergeRowUptoRow.holds Try.pinned (OpenSpec.upto fnExactMergeRowSpec)

/-- 'laws.FnExactCentreOf', WHERE WHAT IT READS IS OF BULK AT MOST 1048576: true; the input reads as it did. -/
def fnExactCentreOfUptoRow : OpenClaim := { program := "ytgllfieaiededaa", sum := "a8248e7282d71adf6c845db6416edec1474f2fd217991c8d27cfe99861af138f", func := "loop.example/g01159/laws.FnExactCentreOf", spec := "fnExactCentreOf", unfollowed := true, recurses := true, apart := false, narrowed := true }
def FnExactCentreOfUptoSaid : Prop := fnExactCentreOfUptoRow.holds Try.pinned (OpenSpec.upto fnExactCentreOfSpec)

/-- 'laws.FnExactJoinRows', WHERE WHAT IT READS IS OF BULK AT MOST 1048576: true; the input reads as it did. -/
def fnExactJoinRowsUptoRow : OpenClaim := { program := "ytgllfieaiededaa", sum := "a8248e7282d71adf6c845db6416edec1474f2fd217991c8d27cfe99861af138f", func := "loop.example/g01159/laws.FnExactJoinRows", spec := "fnExactJoinRows", unfollowed := true, recurses := true, apart := false, narrowed := true }
def FnExactJoinRowsUptoSaid : Prop := fnExactJoinRowsUptoRow.holds Try.pinned (OpenSpec.upto fnExactJoinRowsSpec)

/-- 'laws.FnExactLeastCounter', WHERE WHAT IT READS IS OF BULK AT MOST 1048576: true; the input reads as it did. -/
def fnExactLeastCounterUptoRow : OpenClaim := { program := "ytgllfieaiededaa", sum := "a8248e7282d71adf6c845db6416edec1474f2fd217991c8d27cfe99861af138f", func := "loop.example/g01159/laws.FnExactLeastCounter", spec := "fnExactLeastCounter", unfollowed := true, recurses := true, apart := false, narrowed := true }
def FnExactLeastCounterUptoSaid : Prop := fnExactLeastCounterUptoRow.holds Try.pinned (OpenSpec.upto fnExactLeastCounterSpec)

/-- 'laws.FnExactStandPlaces', WHERE WHAT IT READS IS OF BULK AT MOST 1048576: true; the input reads as it did. -/
def fnExactStandPlacesUptoRow : OpenClaim := { program := "ytgllfieaiededaa", sum := "a8248e7282d71adf6c845db6416edec1474f2fd217991c8d27cfe99861af138f", func := "loop.example/g01159/laws.FnExactStandPlaces", spec := "fnExactStandPlaces", unfollowed := true, recurses := true, apart := false, narrowed := true }
def FnExactStandPlacesUptoSaid : Prop := fnExactStandPlacesUptoRow.holds Try.pinned (OpenSpec.upto fnExactStandPlacesSpec)

end Rows
end Go.Proofs.Ytgllfieaiededaa
