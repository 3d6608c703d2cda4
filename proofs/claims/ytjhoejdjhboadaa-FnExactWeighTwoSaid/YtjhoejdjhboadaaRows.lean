/-
  No cell of these rows narrows 'for every input' (looked for: loops, veiled, ifaces, maps, wideKeys, modest, calm, conditions, laid).
  DERIVED. THE GIVEN ROWS OF THIS SEAT. 9 by the template 'for every input the law returns true; each argument reads behind the call as it read before'; 0 by the template 'total and deterministic' (their statements: YtjhoejdjhboadaaTotals.lean).
  GIVEN WITH THE SEED: the statements are not yours to turn. If you find one false, say at which input.
  Laid BY PROGRAM, IN A SANDBOX (cutbox-rows.mjs): the forced cells as the released guide's own fill.sh prints them over the translation b63d1395187be200… (all of the seat's roots in one cut). By AI agents, Wed Nov 11 2026. No macro, syntax, notation, axiom, sorry.
-/
import Derived.Test.YtjhoejdjhboadaaChecked
import GoSem.Claim
import GoSem.ClaimJoined
import GoSem.ClaimMapViews
import Derived.JoinedTies
import Derived.KernelRfl
namespace Go.Proofs.Ytjhoejdjhboadaa
/- THE CELL 'sum', in the pinned program and in every row, IS THE sha256 OF THE DUMP (.gsa) THAT YtjhoejdjhboadaaProg.lean LOADS. Nothing in Lean hashes anything: it is a label: what it is worth is what the hold of that sum in a sandbox is worth. -/
noncomputable def Try.pinned : Pinned := { name := "ytjhoejdjhboadaa", sum := "b63d1395187be200b7ebe10633073d1f6c6fb23a4d40cc406493bbb059c1361e", checked := Try.checked }
namespace Rows
def none {H : Type} : Left H := { results := [], args := [] }

/-- 'laws.FnExactHowToWeigh': WHATEVER THE INPUT: true; the input reads as it did. -/
def fnExactHowToWeighSpec : ChangeSpec := { name := "fnExactHowToWeigh", fn := fun _ => fun
  | [d1, d2] => { results := [.lit (.bool true)], args := [d1, d2] }
  | _ => none }
def fnExactHowToWeighRow : OpenClaim := { program := "ytjhoejdjhboadaa", sum := "b63d1395187be200b7ebe10633073d1f6c6fb23a4d40cc406493bbb059c1361e", func := "loop.example/g01159/laws.FnExactHowToWeigh", spec := "fnExactHowToWeigh", unfollowed := true, recurses := true, apart := false }
def FnExactHowToWeighSaid : Prop := fnExactHowToWeighRow.holds Try.pinned (OpenSpec.ofChange fnExactHowToWeighSpec)

/-- ITS FALSE NEIGHBOUR: 'it returns false'. Refute it at one input. -/
def fnExactHowToWeighWrong : ChangeSpec := { name := "fnExactHowToWeigh", fn := fun _ => fun
  | [d1, d2] => { results := [.lit (.bool false)], args := [d1, d2] }
  | _ => none }
def FnExactHowToWeighWrongFalsely : Prop := fnExactHowToWeighRow.holds Try.pinned (OpenSpec.ofChange fnExactHowToWeighWrong)

/-- 'laws.FnExactCoinOutcome': WHATEVER THE INPUT: true; the input reads as it did. -/
def fnExactCoinOutcomeSpec : ChangeSpec := { name := "fnExactCoinOutcome", fn := fun _ => fun
  | [d1, d2, d3, d4] => { results := [.lit (.bool true)], args := [d1, d2, d3, d4] }
  | _ => none }
def fnExactCoinOutcomeRow : OpenClaim := { program := "ytjhoejdjhboadaa", sum := "b63d1395187be200b7ebe10633073d1f6c6fb23a4d40cc406493bbb059c1361e", func := "loop.example/g01159/laws.FnExactCoinOutcome", spec := "fnExactCoinOutcome", apart := false }
def FnExactCoinOutcomeSaid : Prop := fnExactCoinOutcomeRow.holds Try.pinned (OpenSpec.ofChange fnExactCoinOutcomeSpec)

/-- ITS FALSE NEIGHBOUR: 'it returns false'. Refute it at one input. -/
def fnExactCoinOutcomeWrong : ChangeSpec := { name := "fnExactCoinOutcome", fn := fun _ => fun
  | [d1, d2, d3, d4] => { results := [.lit (.bool false)], args := [d1, d2, d3, d4] }
  | _ => none }
def FnExactCoinOutcomeWrongFalsely : Prop := fnExactCoinOutcomeRow.holds Try.pinned (OpenSpec.ofChange fnExactCoinOutcomeWrong)

/-- 'laws.FnExactHeavyPlan': WHATEVER THE INPUT: true; the input reads as it did. -/
def fnExactHeavyPlanSpec : ChangeSpec := { name := "fnExactHeavyPlan", fn := fun _ => fun
  | [d] => { results := [.lit (.bool true)], args := [d] }
  | _ => none }
def fnExactHeavyPlanRow : OpenClaim := { program := "ytjhoejdjhboadaa", sum := "b63d1395187be200b7ebe10633073d1f6c6fb23a4d40cc406493bbb059c1361e", func := "loop.example/g01159/laws.FnExactHeavyPlan", spec := "fnExactHeavyPlan", unfollowed := true, recurses := true, apart := false }
def FnExactHeavyPlanSaid : Prop := fnExactHeavyPlanRow.holds Try.pinned (OpenSpec.ofChange fnExactHeavyPlanSpec)

/-- ITS FALSE NEIGHBOUR: 'it returns false'. Refute it at one input. -/
def fnExactHeavyPlanWrong : ChangeSpec := { name := "fnExactHeavyPlan", fn := fun _ => fun
  | [d] => { results := [.lit (.bool false)], args := [d] }
  | _ => none }
def FnExactHeavyPlanWrongFalsely : Prop := fnExactHeavyPlanRow.holds Try.pinned (OpenSpec.ofChange fnExactHeavyPlanWrong)

/-- 'laws.FnExactTellsBoth': WHATEVER THE INPUT: true; the input reads as it did. -/
def fnExactTellsBothSpec : ChangeSpec := { name := "fnExactTellsBoth", fn := fun _ => fun
  | [d1, d2] => { results := [.lit (.bool true)], args := [d1, d2] }
  | _ => none }
def fnExactTellsBothRow : OpenClaim := { program := "ytjhoejdjhboadaa", sum := "b63d1395187be200b7ebe10633073d1f6c6fb23a4d40cc406493bbb059c1361e", func := "loop.example/g01159/laws.FnExactTellsBoth", spec := "fnExactTellsBoth", unfollowed := true, recurses := true, apart := false }
def FnExactTellsBothSaid : Prop := fnExactTellsBothRow.holds Try.pinned (OpenSpec.ofChange fnExactTellsBothSpec)

/-- ITS FALSE NEIGHBOUR: 'it returns false'. Refute it at one input. -/
def fnExactTellsBothWrong : ChangeSpec := { name := "fnExactTellsBoth", fn := fun _ => fun
  | [d1, d2] => { results := [.lit (.bool false)], args := [d1, d2] }
  | _ => none }
def FnExactTellsBothWrongFalsely : Prop := fnExactTellsBothRow.holds Try.pinned (OpenSpec.ofChange fnExactTellsBothWrong)

/-- 'laws.FnExactTellsHeavy': WHATEVER THE INPUT: true; the input reads as it did. -/
def fnExactTellsHeavySpec : ChangeSpec := { name := "fnExactTellsHeavy", fn := fun _ => fun
  | [d1, d2] => { results := [.lit (.bool true)], args := [d1, d2] }
  | _ => none }
def fnExactTellsHeavyRow : OpenClaim := { program := "ytjhoejdjhboadaa", sum := "b63d1395187be200b7ebe10633073d1f6c6fb23a4d40cc406493bbb059c1361e", func := "loop.example/g01159/laws.FnExactTellsHeavy", spec := "fnExactTellsHeavy", unfollowed := true, recurses := true, apart := false }
def FnExactTellsHeavySaid : Prop := fnExactTellsHeavyRow.holds Try.pinned (OpenSpec.ofChange fnExactTellsHeavySpec)

/-- ITS FALSE NEIGHBOUR: 'it returns false'. Refute it at one input. -/
def fnExactTellsHeavyWrong : ChangeSpec := { name := "fnExactTellsHeavy", fn := fun _ => fun
  | [d1, d2] => { results := [.lit (.bool false)], args := [d1, d2] }
  | _ => none }
def FnExactTellsHeavyWrongFalsely : Prop := fnExactTellsHeavyRow.holds Try.pinned (OpenSpec.ofChange fnExactTellsHeavyWrong)

/-- 'laws.FnExactCoinsWith': WHATEVER THE INPUT: true; the input reads as it did. -/
def fnExactCoinsWithSpec : ChangeSpec := { name := "fnExactCoinsWith", fn := fun _ => fun
  | [d1, d2, d3] => { results := [.lit (.bool true)], args := [d1, d2, d3] }
  | _ => none }
def fnExactCoinsWithRow : OpenClaim := { program := "ytjhoejdjhboadaa", sum := "b63d1395187be200b7ebe10633073d1f6c6fb23a4d40cc406493bbb059c1361e", func := "loop.example/g01159/laws.FnExactCoinsWith", spec := "fnExactCoinsWith", unfollowed := true, recurses := true, apart := false }
def FnExactCoinsWithSaid : Prop := fnExactCoinsWithRow.holds Try.pinned (OpenSpec.ofChange fnExactCoinsWithSpec)

/-- ITS FALSE NEIGHBOUR: 'it returns false'. Refute it at one input. -/
def fnExactCoinsWithWrong : ChangeSpec := { name := "fnExactCoinsWith", fn := fun _ => fun
  | [d1, d2, d3] => { results := [.lit (.bool false)], args := [d1, d2, d3] }
  | _ => none }
def FnExactCoinsWithWrongFalsely : Prop := fnExactCoinsWithRow.holds Try.pinned (OpenSpec.ofChange fnExactCoinsWithWrong)

/-- 'laws.FnExactKitRange': WHATEVER THE INPUT: true; the input reads as it did. -/
def fnExactKitRangeSpec : ChangeSpec := { name := "fnExactKitRange", fn := fun _ => fun
  | [d1, d2] => { results := [.lit (.bool true)], args := [d1, d2] }
  | _ => none }
def fnExactKitRangeRow : OpenClaim := { program := "ytjhoejdjhboadaa", sum := "b63d1395187be200b7ebe10633073d1f6c6fb23a4d40cc406493bbb059c1361e", func := "loop.example/g01159/laws.FnExactKitRange", spec := "fnExactKitRange", unfollowed := true, recurses := true, apart := false }
def FnExactKitRangeSaid : Prop := fnExactKitRangeRow.holds Try.pinned (OpenSpec.ofChange fnExactKitRangeSpec)

/-- ITS FALSE NEIGHBOUR: 'it returns false'. Refute it at one input. -/
def fnExactKitRangeWrong : ChangeSpec := { name := "fnExactKitRange", fn := fun _ => fun
  | [d1, d2] => { results := [.lit (.bool false)], args := [d1, d2] }
  | _ => none }
def FnExactKitRangeWrongFalsely : Prop := fnExactKitRangeRow.holds Try.pinned (OpenSpec.ofChange fnExactKitRangeWrong)

/-- 'laws.FnExactWeighOne': WHATEVER THE INPUT: true; the input reads as it did. -/
def fnExactWeighOneSpec : ChangeSpec := { name := "fnExactWeighOne", fn := fun _ => fun
  | [d] => { results := [.lit (.bool true)], args := [d] }
  | _ => none }
def fnExactWeighOneRow : OpenClaim := { program := "ytjhoejdjhboadaa", sum := "b63d1395187be200b7ebe10633073d1f6c6fb23a4d40cc406493bbb059c1361e", func := "loop.example/g01159/laws.FnExactWeighOne", spec := "fnExactWeighOne", unfollowed := true, recurses := true, apart := false }
def FnExactWeighOneSaid : Prop := fnExactWeighOneRow.holds Try.pinned (OpenSpec.ofChange fnExactWeighOneSpec)

/-- ITS FALSE NEIGHBOUR: 'it returns false'. Refute it at one input. -/
def fnExactWeighOneWrong : ChangeSpec := { name := "fnExactWeighOne", fn := fun _ => fun
  | [d] => { results := [.lit (.bool false)], args := [d] }
  | _ => none }
def FnExactWeighOneWrongFalsely : Prop := fnExactWeighOneRow.holds Try.pinned (OpenSpec.ofChange fnExactWeighOneWrong)

/-- 'laws.FnExactWeighTwo': WHATEVER THE INPUT: true; the input reads as it did. -/
def fnExactWeighTwoSpec : ChangeSpec := { name := "fnExactWeighTwo", fn := fun _ => fun
  | [d] => { results := [.lit (.bool true)], args := [d] }
  | _ => none }
def fnExactWeighTwoRow : OpenClaim := { program := "ytjhoejdjhboadaa", sum := "b63d1395187be200b7ebe10633073d1f6c6fb23a4d40cc406493bbb059c1361e", func := "loop.example/g01159/laws.FnExactWeighTwo", spec := "fnExactWeighTwo", unfollowed := true, recurses := true, apart := false }
def FnExactWeighTwoSaid : Prop := fnExactWeighTwoRow.holds Try.pinned (OpenSpec.ofChange fnExactWeighTwoSpec)

/-- ITS FALSE NEIGHBOUR: 'it returns false'. Refute it at one input. -/
def fnExactWeighTwoWrong : ChangeSpec := { name := "fnExactWeighTwo", fn := fun _ => fun
  | [d] => { results := [.lit (.bool false)], args := [d] }
  | _ => none }
def FnExactWeighTwoWrongFalsely : Prop := fnExactWeighTwoRow.holds Try.pinned (OpenSpec.ofChange fnExactWeighTwoWrong)

/- THE SECOND FORM. 'bulk': how many values and letters a reading holds, each counted each time it is reached (what is shared counts as often as it is met; a slice's spare places count too). A statement '..UptoSaid' is the law's where the arguments, and the package variables that the reading takes, are together of bulk at most 1048576: NARROWER than '..Said'. Prove '..Said' where nothing that the law and all that it calls make is longer than what came in: it says more and counts as full. Else prove '..UptoSaid'. A law counts once. -/
mutual
def uptoBulk {H : Type} : DataW H → Nat
  | .lit (.string bytes) => bytes.length + 1
  | .lit _ => 1
  | .nil => 1
  | .ptr d => uptoBulk d + 1
  | .slice elems spare => uptoBulkAll elems + uptoBulkAll spare + 1
  | .agg parts => uptoBulkAll parts + 1
  | .iface _ d => uptoBulk d + 1
  | .map entries => uptoBulkEntries entries + 1
  | .held _ => 1
def uptoBulkAll {H : Type} : List (DataW H) → Nat
  | [] => 0
  | d :: r => uptoBulk d + uptoBulkAll r
def uptoBulkEntries {H : Type} : List (Lit × DataW H) → Nat
  | [] => 0
  | x :: r => uptoBulkEntry x + uptoBulkEntries r
def uptoBulkEntry {H : Type} : Lit × DataW H → Nat
  | (.string bytes, d) => bytes.length + uptoBulk d + 1
  | (_, d) => uptoBulk d + 1
 end
def uptoSmall : (H : Type) → List (DataW H) → Bool := fun _ ds => decide (uptoBulkAll ds ≤ 1048576)
def OpenSpec.upto (s : _root_.Go.ChangeSpec) : _root_.Go.OpenSpec := { _root_.Go.OpenSpec.ofChange s with cond := some uptoSmall }

/-- 'laws.FnExactHowToWeigh', WHERE WHAT IT READS IS OF BULK AT MOST 1048576: true; the input reads as it did. -/
def fnExactHowToWeighUptoRow : OpenClaim := { program := "ytjhoejdjhboadaa", sum := "b63d1395187be200b7ebe10633073d1f6c6fb23a4d40cc406493bbb059c1361e", func := "loop.example/g01159/laws.FnExactHowToWeigh", spec := "fnExactHowToWeigh", unfollowed := true, recurses := true, apart := false, narrowed := true }
def FnExactHowToWeighUptoSaid : Prop := fnExactHowToWeighUptoRow.holds Try.pinned (OpenSpec.upto fnExactHowToWeighSpec)

/-- 'laws.FnExactCoinOutcome', WHERE WHAT IT READS IS OF BULK AT MOST 1048576: true; the input reads as it did. -/
def fnExactCoinOutcomeUptoRow : OpenClaim := { program := "ytjhoejdjhboadaa", sum := "b63d1395187be200b7ebe10633073d1f6c6fb23a4d40cc406493bbb059c1361e", func := "loop.example/g01159/laws.FnExactCoinOutcome", spec := "fnExactCoinOutcome", apart := false, narrowed := true }
def FnExactCoinOutcomeUptoSaid : Prop := fnExactCoinOutcomeUptoRow.holds Try.pinned (OpenSpec.upto fnExactCoinOutcomeSpec)

/-- 'laws.FnExactHeavyPlan', WHERE WHAT IT READS IS OF BULK AT MOST 1048576: true; the input reads as it did. -/
def fnExactHeavyPlanUptoRow : OpenClaim := { program := "ytjhoejdjhboadaa", sum := "b63d1395187be200b7ebe10633073d1f6c6fb23a4d40cc406493bbb059c1361e", func := "loop.example/g01159/laws.FnExactHeavyPlan", spec := "fnExactHeavyPlan", unfollowed := true, recurses := true, apart := false, narrowed := true }
def FnExactHeavyPlanUptoSaid : Prop := fnExactHeavyPlanUptoRow.holds Try.pinned (OpenSpec.upto fnExactHeavyPlanSpec)

/-- 'laws.FnExactTellsBoth', WHERE WHAT IT READS IS OF BULK AT MOST 1048576: true; the input reads as it did. -/
def fnExactTellsBothUptoRow : OpenClaim := { program := "ytjhoejdjhboadaa", sum := "b63d1395187be200b7ebe10633073d1f6c6fb23a4d40cc406493bbb059c1361e", func := "loop.example/g01159/laws.FnExactTellsBoth", spec := "fnExactTellsBoth", unfollowed := true, recurses := true, apart := false, narrowed := true }
def FnExactTellsBothUptoSaid : Prop := fnExactTellsBothUptoRow.holds Try.pinned (OpenSpec.upto fnExactTellsBothSpec)

/-- 'laws.FnExactTellsHeavy', WHERE WHAT IT READS IS OF BULK AT MOST 1048576: true; the input reads as it did. -/
def fnExactTellsHeavyUptoRow : OpenClaim := { program := "ytjhoejdjhboadaa", sum := "b63d1395187be200b7ebe10633073d1f6c6fb23a4d40cc406493bbb059c1361e", func := "loop.example/g01159/laws.FnExactTellsHeavy", spec := "fnExactTellsHeavy", unfollowed := true, recurses := true, apart := false, narrowed := true }
def FnExactTellsHeavyUptoSaid : Prop := fnExactTellsHeavyUptoRow.holds Try.pinned (OpenSpec.upto fnExactTellsHeavySpec)

/-- 'laws.FnExactCoinsWith', WHERE WHAT IT READS IS OF BULK AT MOST 1048576: true; the input reads as it did. -/
def fnExactCoinsWithUptoRow : OpenClaim := { program := "ytjhoejdjhboadaa", sum := "b63d1395187be200b7ebe10633073d1f6c6fb23a4d40cc406493bbb059c1361e", func := "loop.example/g01159/laws.FnExactCoinsWith", spec := "fnExactCoinsWith", unfollowed := true, recurses := true, apart := false, narrowed := true }
def FnExactCoinsWithUptoSaid : Prop := fnExactCoinsWithUptoRow.holds Try.pinned (OpenSpec.upto fnExactCoinsWithSpec)

/-- 'laws.FnExactKitRange', WHERE WHAT IT READS IS OF BULK AT MOST 1048576: true; the input reads as it did. -/
def fnExactKitRangeUptoRow : OpenClaim := { program := "ytjhoejdjhboadaa", sum := "b63d1395187be200b7ebe10633073d1f6c6fb23a4d40cc406493bbb059c1361e", func := "loop.example/g01159/laws.FnExactKitRange", spec := "fnExactKitRange", unfollowed := true, recurses := true, apart := false, narrowed := true }
def FnExactKitRangeUptoSaid : Prop := fnExactKitRangeUptoRow.holds Try.pinned (OpenSpec.upto fnExactKitRangeSpec)

/-- 'laws.FnExactWeighOne', WHERE WHAT IT READS IS OF BULK AT MOST 1048576: true; the input reads as it did. -/
def fnExactWeighOneUptoRow : OpenClaim := { program := "ytjhoejdjhboadaa", sum := "b63d1395187be200b7ebe10633073d1f6c6fb23a4d40cc406493bbb059c1361e", func := "loop.example/g01159/laws.FnExactWeighOne", spec := "fnExactWeighOne", unfollowed := true, recurses := true, apart := false, narrowed := true }
def FnExactWeighOneUptoSaid : Prop := fnExactWeighOneUptoRow.holds Try.pinned (OpenSpec.upto fnExactWeighOneSpec)

/-- 'laws.FnExactWeighTwo', WHERE WHAT IT READS IS OF BULK AT MOST 1048576: true; the input reads as it did. -/
def fnExactWeighTwoUptoRow : OpenClaim := { program := "ytjhoejdjhboadaa", sum := "b63d1395187be200b7ebe10633073d1f6c6fb23a4d40cc406493bbb059c1361e", func := "loop.example/g01159/laws.FnExactWeighTwo", spec := "fnExactWeighTwo", unfollowed := true, recurses := true, apart := false, narrowed := true }
def FnExactWeighTwoUptoSaid : Prop := fnExactWeighTwoUptoRow.holds Try.pinned (OpenSpec.upto fnExactWeighTwoSpec)

end Rows
end Go.Proofs.Ytjhoejdjhboadaa
