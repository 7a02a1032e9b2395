/-
  No cell of these rows narrows 'for every input' (looked for: loops, veiled, ifaces, maps, wideKeys, modest, calm, conditions, laid).
  DERIVED. THE GIVEN ROWS OF THIS SEAT. 12 by the template 'for every input the law returns true; each argument reads behind the call as it read before'; 0 by the template 'total and deterministic' (their statements: YtjecnhmcikckhaaTotals.lean).
  GIVEN WITH THE SEED: the statements are not yours to turn. If you find one false, say at which input.
  Laid BY PROGRAM, IN A SANDBOX (cutbox-rows.mjs): the forced cells as the released guide's own fill.sh prints them over the translation 1ff5dc76aa2a6b06… (all of the seat's roots in one cut). By AI agents, Wed Nov 11 2026. No macro, syntax, notation, axiom, sorry.
-/
import Derived.Test.YtjecnhmcikckhaaChecked
import GoSem.Claim
import GoSem.ClaimJoined
import GoSem.ClaimMapViews
import Derived.JoinedTies
import Derived.KernelRfl
namespace Go.Proofs.Ytjecnhmcikckhaa
/- THE CELL 'sum', in the pinned program and in every row, IS THE sha256 OF THE DUMP (.gsa) THAT YtjecnhmcikckhaaProg.lean LOADS. Nothing in Lean hashes anything: it is a label: what it is worth is what the hold of that sum in a sandbox is worth. -/
noncomputable def Try.pinned : Pinned := { name := "ytjecnhmcikckhaa", sum := "1ff5dc76aa2a6b06a9940fead0bfc47754b68411dddad230d5b2e25f09dd5ce7", checked := Try.checked }
namespace Rows
def none {H : Type} : Left H := { results := [], args := [] }

/-- 'laws.FnExactSameGabidulin': WHATEVER THE INPUT: true; the input reads as it did. -/
def fnExactSameGabidulinSpec : ChangeSpec := { name := "fnExactSameGabidulin", fn := fun _ => fun
  | [d1, d2] => { results := [.lit (.bool true)], args := [d1, d2] }
  | _ => none }
def fnExactSameGabidulinRow : OpenClaim := { program := "ytjecnhmcikckhaa", sum := "1ff5dc76aa2a6b06a9940fead0bfc47754b68411dddad230d5b2e25f09dd5ce7", func := "loop.example/g01144/laws.FnExactSameGabidulin", spec := "fnExactSameGabidulin", apart := false }
def FnExactSameGabidulinSaid : Prop := fnExactSameGabidulinRow.holds Try.pinned (OpenSpec.ofChange fnExactSameGabidulinSpec)

/-- ITS FALSE NEIGHBOUR: 'it returns false'. Refute it at one input. -/
def fnExactSameGabidulinWrong : ChangeSpec := { name := "fnExactSameGabidulin", fn := fun _ => fun
  | [d1, d2] => { results := [.lit (.bool false)], args := [d1, d2] }
  | _ => none }
def FnExactSameGabidulinWrongFalsely : Prop := fnExactSameGabidulinRow.holds Try.pinned (OpenSpec.ofChange fnExactSameGabidulinWrong)

/-- 'laws.FnExactFieldOf': WHATEVER THE INPUT: true; the input reads as it did. -/
def fnExactFieldOfSpec : ChangeSpec := { name := "fnExactFieldOf", fn := fun _ => fun
  | [d] => { results := [.lit (.bool true)], args := [d] }
  | _ => none }
def fnExactFieldOfRow : OpenClaim := { program := "ytjecnhmcikckhaa", sum := "1ff5dc76aa2a6b06a9940fead0bfc47754b68411dddad230d5b2e25f09dd5ce7", func := "loop.example/g01144/laws.FnExactFieldOf", spec := "fnExactFieldOf", apart := false }
def FnExactFieldOfSaid : Prop := fnExactFieldOfRow.holds Try.pinned (OpenSpec.ofChange fnExactFieldOfSpec)

/-- ITS FALSE NEIGHBOUR: 'it returns false'. Refute it at one input. -/
def fnExactFieldOfWrong : ChangeSpec := { name := "fnExactFieldOf", fn := fun _ => fun
  | [d] => { results := [.lit (.bool false)], args := [d] }
  | _ => none }
def FnExactFieldOfWrongFalsely : Prop := fnExactFieldOfRow.holds Try.pinned (OpenSpec.ofChange fnExactFieldOfWrong)

/-- 'laws.FnExactValidLinear': WHATEVER THE INPUT: true; the input reads as it did. -/
def fnExactValidLinearSpec : ChangeSpec := { name := "fnExactValidLinear", fn := fun _ => fun
  | [d1, d2] => { results := [.lit (.bool true)], args := [d1, d2] }
  | _ => none }
def fnExactValidLinearRow : OpenClaim := { program := "ytjecnhmcikckhaa", sum := "1ff5dc76aa2a6b06a9940fead0bfc47754b68411dddad230d5b2e25f09dd5ce7", func := "loop.example/g01144/laws.FnExactValidLinear", spec := "fnExactValidLinear", unfollowed := true, recurses := true, apart := false }
def FnExactValidLinearSaid : Prop := fnExactValidLinearRow.holds Try.pinned (OpenSpec.ofChange fnExactValidLinearSpec)

/-- ITS FALSE NEIGHBOUR: 'it returns false'. Refute it at one input. -/
def fnExactValidLinearWrong : ChangeSpec := { name := "fnExactValidLinear", fn := fun _ => fun
  | [d1, d2] => { results := [.lit (.bool false)], args := [d1, d2] }
  | _ => none }
def FnExactValidLinearWrongFalsely : Prop := fnExactValidLinearRow.holds Try.pinned (OpenSpec.ofChange fnExactValidLinearWrong)

/-- 'laws.FnExactFieldsOf': WHATEVER THE INPUT: true; the input reads as it did. -/
def fnExactFieldsOfSpec : ChangeSpec := { name := "fnExactFieldsOf", fn := fun _ => fun
  | [d] => { results := [.lit (.bool true)], args := [d] }
  | _ => none }
def fnExactFieldsOfRow : OpenClaim := { program := "ytjecnhmcikckhaa", sum := "1ff5dc76aa2a6b06a9940fead0bfc47754b68411dddad230d5b2e25f09dd5ce7", func := "loop.example/g01144/laws.FnExactFieldsOf", spec := "fnExactFieldsOf", apart := false }
def FnExactFieldsOfSaid : Prop := fnExactFieldsOfRow.holds Try.pinned (OpenSpec.ofChange fnExactFieldsOfSpec)

/-- ITS FALSE NEIGHBOUR: 'it returns false'. Refute it at one input. -/
def fnExactFieldsOfWrong : ChangeSpec := { name := "fnExactFieldsOf", fn := fun _ => fun
  | [d] => { results := [.lit (.bool false)], args := [d] }
  | _ => none }
def FnExactFieldsOfWrongFalsely : Prop := fnExactFieldsOfRow.holds Try.pinned (OpenSpec.ofChange fnExactFieldsOfWrong)

/-- 'laws.FnExactGreatestDimension': WHATEVER THE INPUT: true; the input reads as it did. -/
def fnExactGreatestDimensionSpec : ChangeSpec := { name := "fnExactGreatestDimension", fn := fun _ => fun
  | [d1, d2, d3] => { results := [.lit (.bool true)], args := [d1, d2, d3] }
  | _ => none }
def fnExactGreatestDimensionRow : OpenClaim := { program := "ytjecnhmcikckhaa", sum := "1ff5dc76aa2a6b06a9940fead0bfc47754b68411dddad230d5b2e25f09dd5ce7", func := "loop.example/g01144/laws.FnExactGreatestDimension", spec := "fnExactGreatestDimension", unfollowed := true, recurses := true, apart := false }
def FnExactGreatestDimensionSaid : Prop := fnExactGreatestDimensionRow.holds Try.pinned (OpenSpec.ofChange fnExactGreatestDimensionSpec)

/-- ITS FALSE NEIGHBOUR: 'it returns false'. Refute it at one input. -/
def fnExactGreatestDimensionWrong : ChangeSpec := { name := "fnExactGreatestDimension", fn := fun _ => fun
  | [d1, d2, d3] => { results := [.lit (.bool false)], args := [d1, d2, d3] }
  | _ => none }
def FnExactGreatestDimensionWrongFalsely : Prop := fnExactGreatestDimensionRow.holds Try.pinned (OpenSpec.ofChange fnExactGreatestDimensionWrong)

/-- 'laws.FnExactAddMatrices': WHATEVER THE INPUT: true; the input reads as it did. -/
def fnExactAddMatricesSpec : ChangeSpec := { name := "fnExactAddMatrices", fn := fun _ => fun
  | [d1, d2] => { results := [.lit (.bool true)], args := [d1, d2] }
  | _ => none }
def fnExactAddMatricesRow : OpenClaim := { program := "ytjecnhmcikckhaa", sum := "1ff5dc76aa2a6b06a9940fead0bfc47754b68411dddad230d5b2e25f09dd5ce7", func := "loop.example/g01144/laws.FnExactAddMatrices", spec := "fnExactAddMatrices", unfollowed := true, recurses := true, apart := false }
def FnExactAddMatricesSaid : Prop := fnExactAddMatricesRow.holds Try.pinned (OpenSpec.ofChange fnExactAddMatricesSpec)

/-- ITS FALSE NEIGHBOUR: 'it returns false'. Refute it at one input. -/
def fnExactAddMatricesWrong : ChangeSpec := { name := "fnExactAddMatrices", fn := fun _ => fun
  | [d1, d2] => { results := [.lit (.bool false)], args := [d1, d2] }
  | _ => none }
def FnExactAddMatricesWrongFalsely : Prop := fnExactAddMatricesRow.holds Try.pinned (OpenSpec.ofChange fnExactAddMatricesWrong)

/-- 'laws.FnExactMulIn': WHATEVER THE INPUT: true; the input reads as it did. -/
def fnExactMulInSpec : ChangeSpec := { name := "fnExactMulIn", fn := fun _ => fun
  | [d1, d2, d3] => { results := [.lit (.bool true)], args := [d1, d2, d3] }
  | _ => none }
def fnExactMulInRow : OpenClaim := { program := "ytjecnhmcikckhaa", sum := "1ff5dc76aa2a6b06a9940fead0bfc47754b68411dddad230d5b2e25f09dd5ce7", func := "loop.example/g01144/laws.FnExactMulIn", spec := "fnExactMulIn", unfollowed := true, recurses := true, apart := false }
def FnExactMulInSaid : Prop := fnExactMulInRow.holds Try.pinned (OpenSpec.ofChange fnExactMulInSpec)

/-- ITS FALSE NEIGHBOUR: 'it returns false'. Refute it at one input. -/
def fnExactMulInWrong : ChangeSpec := { name := "fnExactMulIn", fn := fun _ => fun
  | [d1, d2, d3] => { results := [.lit (.bool false)], args := [d1, d2, d3] }
  | _ => none }
def FnExactMulInWrongFalsely : Prop := fnExactMulInRow.holds Try.pinned (OpenSpec.ofChange fnExactMulInWrong)

/-- 'laws.FnExactSolveRows': WHATEVER THE INPUT: true; the input reads as it did. -/
def fnExactSolveRowsSpec : ChangeSpec := { name := "fnExactSolveRows", fn := fun _ => fun
  | [d1, d2] => { results := [.lit (.bool true)], args := [d1, d2] }
  | _ => none }
def fnExactSolveRowsRow : OpenClaim := { program := "ytjecnhmcikckhaa", sum := "1ff5dc76aa2a6b06a9940fead0bfc47754b68411dddad230d5b2e25f09dd5ce7", func := "loop.example/g01144/laws.FnExactSolveRows", spec := "fnExactSolveRows", unfollowed := true, recurses := true, apart := false }
def FnExactSolveRowsSaid : Prop := fnExactSolveRowsRow.holds Try.pinned (OpenSpec.ofChange fnExactSolveRowsSpec)

/-- ITS FALSE NEIGHBOUR: 'it returns false'. Refute it at one input. -/
def fnExactSolveRowsWrong : ChangeSpec := { name := "fnExactSolveRows", fn := fun _ => fun
  | [d1, d2] => { results := [.lit (.bool false)], args := [d1, d2] }
  | _ => none }
def FnExactSolveRowsWrongFalsely : Prop := fnExactSolveRowsRow.holds Try.pinned (OpenSpec.ofChange fnExactSolveRowsWrong)

/-- 'laws.FnExactDualWeights': WHATEVER THE INPUT: true; the input reads as it did. -/
def fnExactDualWeightsSpec : ChangeSpec := { name := "fnExactDualWeights", fn := fun _ => fun
  | [d1, d2, d3] => { results := [.lit (.bool true)], args := [d1, d2, d3] }
  | _ => none }
def fnExactDualWeightsRow : OpenClaim := { program := "ytjecnhmcikckhaa", sum := "1ff5dc76aa2a6b06a9940fead0bfc47754b68411dddad230d5b2e25f09dd5ce7", func := "loop.example/g01144/laws.FnExactDualWeights", spec := "fnExactDualWeights", unfollowed := true, recurses := true, apart := false }
def FnExactDualWeightsSaid : Prop := fnExactDualWeightsRow.holds Try.pinned (OpenSpec.ofChange fnExactDualWeightsSpec)

/-- ITS FALSE NEIGHBOUR: 'it returns false'. Refute it at one input. -/
def fnExactDualWeightsWrong : ChangeSpec := { name := "fnExactDualWeights", fn := fun _ => fun
  | [d1, d2, d3] => { results := [.lit (.bool false)], args := [d1, d2, d3] }
  | _ => none }
def FnExactDualWeightsWrongFalsely : Prop := fnExactDualWeightsRow.holds Try.pinned (OpenSpec.ofChange fnExactDualWeightsWrong)

/-- 'laws.FnExactSameCode': WHATEVER THE INPUT: true; the input reads as it did. -/
def fnExactSameCodeSpec : ChangeSpec := { name := "fnExactSameCode", fn := fun _ => fun
  | [d1, d2] => { results := [.lit (.bool true)], args := [d1, d2] }
  | _ => none }
def fnExactSameCodeRow : OpenClaim := { program := "ytjecnhmcikckhaa", sum := "1ff5dc76aa2a6b06a9940fead0bfc47754b68411dddad230d5b2e25f09dd5ce7", func := "loop.example/g01144/laws.FnExactSameCode", spec := "fnExactSameCode", unfollowed := true, recurses := true, apart := false }
def FnExactSameCodeSaid : Prop := fnExactSameCodeRow.holds Try.pinned (OpenSpec.ofChange fnExactSameCodeSpec)

/-- ITS FALSE NEIGHBOUR: 'it returns false'. Refute it at one input. -/
def fnExactSameCodeWrong : ChangeSpec := { name := "fnExactSameCode", fn := fun _ => fun
  | [d1, d2] => { results := [.lit (.bool false)], args := [d1, d2] }
  | _ => none }
def FnExactSameCodeWrongFalsely : Prop := fnExactSameCodeRow.holds Try.pinned (OpenSpec.ofChange fnExactSameCodeWrong)

/-- 'laws.FnExactFirstPrimitive': WHATEVER THE INPUT: true; the input reads as it did. -/
def fnExactFirstPrimitiveSpec : ChangeSpec := { name := "fnExactFirstPrimitive", fn := fun _ => fun
  | [d] => { results := [.lit (.bool true)], args := [d] }
  | _ => none }
def fnExactFirstPrimitiveRow : OpenClaim := { program := "ytjecnhmcikckhaa", sum := "1ff5dc76aa2a6b06a9940fead0bfc47754b68411dddad230d5b2e25f09dd5ce7", func := "loop.example/g01144/laws.FnExactFirstPrimitive", spec := "fnExactFirstPrimitive", unfollowed := true, recurses := true, apart := false }
def FnExactFirstPrimitiveSaid : Prop := fnExactFirstPrimitiveRow.holds Try.pinned (OpenSpec.ofChange fnExactFirstPrimitiveSpec)

/-- ITS FALSE NEIGHBOUR: 'it returns false'. Refute it at one input. -/
def fnExactFirstPrimitiveWrong : ChangeSpec := { name := "fnExactFirstPrimitive", fn := fun _ => fun
  | [d] => { results := [.lit (.bool false)], args := [d] }
  | _ => none }
def FnExactFirstPrimitiveWrongFalsely : Prop := fnExactFirstPrimitiveRow.holds Try.pinned (OpenSpec.ofChange fnExactFirstPrimitiveWrong)

/-- 'laws.FnExactRankOf': WHATEVER THE INPUT: true; the input reads as it did. -/
def fnExactRankOfSpec : ChangeSpec := { name := "fnExactRankOf", fn := fun _ => fun
  | [d] => { results := [.lit (.bool true)], args := [d] }
  | _ => none }
def fnExactRankOfRow : OpenClaim := { program := "ytjecnhmcikckhaa", sum := "1ff5dc76aa2a6b06a9940fead0bfc47754b68411dddad230d5b2e25f09dd5ce7", func := "loop.example/g01144/laws.FnExactRankOf", spec := "fnExactRankOf", unfollowed := true, recurses := true, apart := false }
def FnExactRankOfSaid : Prop := fnExactRankOfRow.holds Try.pinned (OpenSpec.ofChange fnExactRankOfSpec)

/-- ITS FALSE NEIGHBOUR: 'it returns false'. Refute it at one input. -/
def fnExactRankOfWrong : ChangeSpec := { name := "fnExactRankOf", fn := fun _ => fun
  | [d] => { results := [.lit (.bool false)], args := [d] }
  | _ => none }
def FnExactRankOfWrongFalsely : Prop := fnExactRankOfRow.holds Try.pinned (OpenSpec.ofChange fnExactRankOfWrong)

/- THE SECOND FORM. 'bulk': how many values and letters a reading holds, each counted each time it is reached (what is shared counts as often as it is met; a slice's spare places count too). A statement '..UptoSaid' is the law's where the arguments, and the package variables that the reading takes, are together of bulk at most 1048576: NARROWER than '..Said'. Prove '..Said' where nothing that the law and all that it calls make is longer than what came in: it says more and counts as full. Else prove '..UptoSaid'. A law counts once. -/
mutual
def uptoBulk {H : Type} : DataW H → Nat
  | .lit (.string bytes) => bytes.length + 1
  | .lit _ => 1
  | .nil => 1
  | .ptr d => uptoBulk d + 1
  | .slice elems spare => uptoBulkAll elems + uptoBulkAll spare + 1
  | .agg parts => uptoBulkAll parts + 1
  | .iface _ d => uptoBulk d + 1
  | .map entries => uptoBulkEntries entries + 1
  | .held _ => 1
def uptoBulkAll {H : Type} : List (DataW H) → Nat
  | [] => 0
  | d :: r => uptoBulk d + uptoBulkAll r
def uptoBulkEntries {H : Type} : List (Lit × DataW H) → Nat
  | [] => 0
  | x :: r => uptoBulkEntry x + uptoBulkEntries r
def uptoBulkEntry {H : Type} : Lit × DataW H → Nat
  | (.string bytes, d) => bytes.length + uptoBulk d + 1
  | (_, d) => uptoBulk d + 1
 end
def uptoSmall : (H : Type) → List (DataW H) → Bool := fun _ ds => decide (uptoBulkAll ds ≤ 1048576)
def OpenSpec.upto (s : _root_.Go.ChangeSpec) : _root_.Go.OpenSpec := { _root_.Go.OpenSpec.ofChange s with cond := some uptoSmall }

/-- 'laws.FnExactSameGabidulin', WHERE WHAT IT READS IS OF BULK AT MOST 1048576: true; the input reads as it did. -/
def fnExactSameGabidulinUptoRow : OpenClaim := { program := "ytjecnhmcikckhaa", sum := "1ff5dc76aa2a6b06a9940fead0bfc47754b68411dddad230d5b2e25f09dd5ce7", func := "loop.example/g01144/laws.FnExactSameGabidulin", spec := "fnExactSameGabidulin", apart := false, narrowed := true }
def FnExactSameGabidulinUptoSaid : Prop := fnExactSameGabidulinUptoRow.holds Try.pinned (OpenSpec.upto fnExactSameGabidulinSpec)

/-- 'laws.FnExactFieldOf', WHERE WHAT IT READS IS OF BULK AT MOST 1048576: true; the input reads as it did. -/
def fnExactFieldOfUptoRow : OpenClaim := { program := "ytjecnhmcikckhaa", sum := "1ff5dc76aa2a6b06a9940fead0bfc47754b68411dddad230d5b2e25f09dd5ce7", func := "loop.example/g01144/laws.FnExactFieldOf", spec := "fnExactFieldOf", apart := false, narrowed := true }
def FnExactFieldOfUptoSaid : Prop := fnExactFieldOfUptoRow.holds Try.pinned (OpenSpec.upto fnExactFieldOfSpec)

/-- 'laws.FnExactValidLinear', WHERE WHAT IT READS IS OF BULK AT MOST 1048576: true; the input reads as it did. -/
def fnExactValidLinearUptoRow : OpenClaim := { program := "ytjecnhmcikckhaa", sum := "1ff5dc76aa2a6b06a9940fead0bfc47754b68411dddad230d5b2e25f09dd5ce7", func := "loop.example/g01144/laws.FnExactValidLinear", spec := "fnExactValidLinear", unfollowed := true, recurses := true, apart := false, narrowed := true }
def FnExactValidLinearUptoSaid : Prop := fnExactValidLinearUptoRow.holds Try.pinned (OpenSpec.upto fnExactValidLinearSpec)

/-- 'laws.FnExactFieldsOf', WHERE WHAT IT READS IS OF BULK AT MOST 1048576: true; the input reads as it did. -/
def fnExactFieldsOfUptoRow : OpenClaim := { program := "ytjecnhmcikckhaa", sum := "1ff5dc76aa2a6b06a9940fead0bfc47754b68411dddad230d5b2e25f09dd5ce7", func := "loop.example/g01144/laws.FnExactFieldsOf", spec := "fnExactFieldsOf", apart := false, narrowed := true }
def FnExactFieldsOfUptoSaid : Prop := fnExactFieldsOfUptoRow.holds Try.pinned (OpenSpec.upto fnExactFieldsOfSpec)

/-- 'laws.FnExactGreatestDimension', WHERE WHAT IT READS IS OF BULK AT MOST 1048576: true; the input reads as it did. -/
def fnExactGreatestDimensionUptoRow : OpenClaim := { program := "ytjecnhmcikckhaa", sum := "1ff5dc76aa2a6b06a9940fead0bfc47754b68411dddad230d5b2e25f09dd5ce7", func := "loop.example/g01144/laws.FnExactGreatestDimension", spec := "fnExactGreatestDimension", unfollowed := true, recurses := true, apart := false, narrowed := true }
def FnExactGreatestDimensionUptoSaid : Prop := fnExactGreatestDimensionUptoRow.holds Try.pinned (OpenSpec.upto fnExactGreatestDimensionSpec)

/-- 'laws.FnExactAddMatrices', WHERE WHAT IT READS IS OF BULK AT MOST 1048576: true; the input reads as it did. -/
def fnExactAddMatricesUptoRow : OpenClaim := { program := "ytjecnhmcikckhaa", sum := "1ff5dc76aa2a6b06a9940fead0bfc47754b68411dddad230d5b2e25f09dd5ce7", func := "loop.example/g01144/laws.FnExactAddMatrices", spec := "fnExactAddMatrices", unfollowed := true, recurses := true, apart := false, narrowed := true }
def FnExactAddMatricesUptoSaid : Prop := fnExactAddMatricesUptoRow.holds Try.pinned (OpenSpec.upto fnExactAddMatricesSpec)

/-- 'laws.FnExactMulIn', WHERE WHAT IT READS IS OF BULK AT MOST 1048576: true; the input reads as it did. -/
def fnExactMulInUptoRow : OpenClaim := { program := "ytjecnhmcikckhaa", sum := "1ff5dc76aa2a6b06a9940fead0bfc47754b68411dddad230d5b2e25f09dd5ce7", func := "loop.example/g01144/laws.FnExactMulIn", spec := "fnExactMulIn", unfollowed := true, recurses := true, apart := false, narrowed := true }
def FnExactMulInUptoSaid : Prop := fnExactMulInUptoRow.holds Try.pinned (OpenSpec.upto fnExactMulInSpec)

/-- 'laws.FnExactSolveRows', WHERE WHAT IT READS IS OF BULK AT MOST 1048576: true; the input reads as it did. -/
def fnExactSolveRowsUptoRow : OpenClaim := { program := "ytjecnhmcikckhaa", sum := "1ff5dc76aa2a6b06a9940fead0bfc47754b68411dddad230d5b2e25f09dd5ce7", func := "loop.example/g01144/laws.FnExactSolveRows", spec := "fnExactSolveRows", unfollowed := true, recurses := true, apart := false, narrowed := true }
def FnExactSolveRowsUptoSaid : Prop := fnExactSolveRowsUptoRow.holds Try.pinned (OpenSpec.upto fnExactSolveRowsSpec)

/-- 'laws.FnExactDualWeights', WHERE WHAT IT READS IS OF BULK AT MOST 1048576: true; the input reads as it did. -/
def fnExactDualWeightsUptoRow : OpenClaim := { program := "ytjecnhmcikckhaa", sum := "1ff5dc76aa2a6b06a9940fead0bfc47754b68411dddad230d5b2e25f09dd5ce7", func := "loop.example/g01144/laws.FnExactDualWeights", spec := "fnExactDualWeights", unfollowed := true, recurses := true, apart := false, narrowed := true }
def FnExactDualWeightsUptoSaid : Prop := fnExactDualWeightsUptoRow.holds Try.pinned (OpenSpec.upto fnExactDualWeightsSpec)

/-- 'laws.FnExactSameCode', WHERE WHAT IT READS IS OF BULK AT MOST 1048576: true; the input reads as it did. -/
def fnExactSameCodeUptoRow : OpenClaim := { program := "ytjecnhmcikckhaa", sum := "1ff5dc76aa2a6b06a9940fead0bfc47754b68411dddad230d5b2e25f09dd5ce7", func := "loop.example/g01144/laws.FnExactSameCode", spec := "fnExactSameCode", unfollowed := true, recurses := true, apart := false, narrowed := true }
def FnExactSameCodeUptoSaid : Prop := fnExactSameCodeUptoRow.holds Try.pinned (OpenSpec.upto fnExactSameCodeSpec)

/-- 'laws.FnExactFirstPrimitive', WHERE WHAT IT READS IS OF BULK AT MOST 1048576: true; the input reads as it did. -/
def fnExactFirstPrimitiveUptoRow : OpenClaim := { program := "ytjecnhmcikckhaa", sum := "1ff5dc76aa2a6b06a9940fead0bfc47754b68411dddad230d5b2e25f09dd5ce7", func := "loop.example/g01144/laws.FnExactFirstPrimitive", spec := "fnExactFirstPrimitive", unfollowed := true, recurses := true, apart := false, narrowed := true }
def FnExactFirstPrimitiveUptoSaid : Prop := fnExactFirstPrimitiveUptoRow.holds Try.pinned (OpenSpec.upto fnExactFirstPrimitiveSpec)

/-- 'laws.FnExactRankOf', WHERE WHAT IT READS IS OF BULK AT MOST 1048576: true; the input reads as it did. -/
def fnExactRankOfUptoRow : OpenClaim := { program := "ytjecnhmcikckhaa", sum := "1ff5dc76aa2a6b06a9940fead0bfc47754b68411dddad230d5b2e25f09dd5ce7", func := "loop.example/g01144/laws.FnExactRankOf", spec := "fnExactRankOf", unfollowed := true, recurses := true, apart := false, narrowed := true }
def FnExactRankOfUptoSaid : Prop := fnExactRankOfUptoRow.holds Try.pinned (OpenSpec.upto fnExactRankOfSpec)

end Rows
end Go.Proofs.Ytjecnhmcikckhaa
