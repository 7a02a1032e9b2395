/-
  No cell of these rows narrows 'for every input' (looked for: loops, veiled, ifaces, maps, wideKeys, modest, calm, conditions, laid).
  DERIVED. THE GIVEN ROWS OF THIS SEAT. 12 by the template 'for every input the law returns true; each argument reads behind the call as it read before'; 0 by the template 'total and deterministic' (their statements: YtddaiejpdiibkaaTotals.lean).
  GIVEN WITH THE SEED: the statements are not yours to turn. If you find one false, say at which input.
  Laid BY PROGRAM, IN A SANDBOX (cutbox-rows.mjs): the forced cells as the released guide's own fill.sh prints them over the translation 9542e77e9609d2fb… (all of the seat's roots in one cut). By AI agents, Wed Nov 11 2026. No macro, syntax, notation, axiom, sorry.
-/
import Derived.Test.YtddaiejpdiibkaaChecked
import GoSem.Claim
import GoSem.ClaimJoined
import GoSem.ClaimMapViews
import Derived.JoinedTies
import Derived.KernelRfl
namespace Go.Proofs.Ytddaiejpdiibkaa
/- THE CELL 'sum', in the pinned program and in every row, IS THE sha256 OF THE DUMP (.gsa) THAT YtddaiejpdiibkaaProg.lean LOADS. Nothing in Lean hashes anything: it is a label: what it is worth is what the hold of that sum in a sandbox is worth. -/
noncomputable def Try.pinned : Pinned := { name := "ytddaiejpdiibkaa", sum := "9542e77e9609d2fbf16b957cab749da001ce15242025ea9c3f5f340acf9db01b", checked := Try.checked }
namespace Rows
def none {H : Type} : Left H := { results := [], args := [] }

/-- 'laws.FnExactSplitIn': WHATEVER THE INPUT: true; the input reads as it did. -/
def fnExactSplitInSpec : ChangeSpec := { name := "fnExactSplitIn", fn := fun _ => fun
  | [d1, d2] => { results := [.lit (.bool true)], args := [d1, d2] }
  | _ => none }
def fnExactSplitInRow : OpenClaim := { program := "ytddaiejpdiibkaa", sum := "9542e77e9609d2fbf16b957cab749da001ce15242025ea9c3f5f340acf9db01b", func := "loop.example/g01144/laws.FnExactSplitIn", spec := "fnExactSplitIn", unfollowed := true, recurses := true, apart := false }
def FnExactSplitInSaid : Prop := fnExactSplitInRow.holds Try.pinned (OpenSpec.ofChange fnExactSplitInSpec)

/-- ITS FALSE NEIGHBOUR: 'it returns false'. Refute it at one input. -/
def fnExactSplitInWrong : ChangeSpec := { name := "fnExactSplitIn", fn := fun _ => fun
  | [d1, d2] => { results := [.lit (.bool false)], args := [d1, d2] }
  | _ => none }
def FnExactSplitInWrongFalsely : Prop := fnExactSplitInRow.holds Try.pinned (OpenSpec.ofChange fnExactSplitInWrong)

/-- 'laws.FnInverses': WHATEVER THE INPUT: true; the input reads as it did. -/
def fnInversesSpec : ChangeSpec := { name := "fnInverses", fn := fun _ => fun
  | [d1, d2] => { results := [.lit (.bool true)], args := [d1, d2] }
  | _ => none }
def fnInversesRow : OpenClaim := { program := "ytddaiejpdiibkaa", sum := "9542e77e9609d2fbf16b957cab749da001ce15242025ea9c3f5f340acf9db01b", func := "loop.example/g01144/laws.FnInverses", spec := "fnInverses", unfollowed := true, recurses := true, apart := false }
def FnInversesSaid : Prop := fnInversesRow.holds Try.pinned (OpenSpec.ofChange fnInversesSpec)

/-- ITS FALSE NEIGHBOUR: 'it returns false'. Refute it at one input. -/
def fnInversesWrong : ChangeSpec := { name := "fnInverses", fn := fun _ => fun
  | [d1, d2] => { results := [.lit (.bool false)], args := [d1, d2] }
  | _ => none }
def FnInversesWrongFalsely : Prop := fnInversesRow.holds Try.pinned (OpenSpec.ofChange fnInversesWrong)

/-- 'laws.FnExactTurnMatrix': WHATEVER THE INPUT: true; the input reads as it did. -/
def fnExactTurnMatrixSpec : ChangeSpec := { name := "fnExactTurnMatrix", fn := fun _ => fun
  | [d] => { results := [.lit (.bool true)], args := [d] }
  | _ => none }
def fnExactTurnMatrixRow : OpenClaim := { program := "ytddaiejpdiibkaa", sum := "9542e77e9609d2fbf16b957cab749da001ce15242025ea9c3f5f340acf9db01b", func := "loop.example/g01144/laws.FnExactTurnMatrix", spec := "fnExactTurnMatrix", unfollowed := true, recurses := true, apart := false }
def FnExactTurnMatrixSaid : Prop := fnExactTurnMatrixRow.holds Try.pinned (OpenSpec.ofChange fnExactTurnMatrixSpec)

/-- ITS FALSE NEIGHBOUR: 'it returns false'. Refute it at one input. -/
def fnExactTurnMatrixWrong : ChangeSpec := { name := "fnExactTurnMatrix", fn := fun _ => fun
  | [d] => { results := [.lit (.bool false)], args := [d] }
  | _ => none }
def FnExactTurnMatrixWrongFalsely : Prop := fnExactTurnMatrixRow.holds Try.pinned (OpenSpec.ofChange fnExactTurnMatrixWrong)

/-- 'laws.FnExactSquareTimes': WHATEVER THE INPUT: true; the input reads as it did. -/
def fnExactSquareTimesSpec : ChangeSpec := { name := "fnExactSquareTimes", fn := fun _ => fun
  | [d1, d2, d3] => { results := [.lit (.bool true)], args := [d1, d2, d3] }
  | _ => none }
def fnExactSquareTimesRow : OpenClaim := { program := "ytddaiejpdiibkaa", sum := "9542e77e9609d2fbf16b957cab749da001ce15242025ea9c3f5f340acf9db01b", func := "loop.example/g01144/laws.FnExactSquareTimes", spec := "fnExactSquareTimes", unfollowed := true, recurses := true, apart := false }
def FnExactSquareTimesSaid : Prop := fnExactSquareTimesRow.holds Try.pinned (OpenSpec.ofChange fnExactSquareTimesSpec)

/-- ITS FALSE NEIGHBOUR: 'it returns false'. Refute it at one input. -/
def fnExactSquareTimesWrong : ChangeSpec := { name := "fnExactSquareTimes", fn := fun _ => fun
  | [d1, d2, d3] => { results := [.lit (.bool false)], args := [d1, d2, d3] }
  | _ => none }
def FnExactSquareTimesWrongFalsely : Prop := fnExactSquareTimesRow.holds Try.pinned (OpenSpec.ofChange fnExactSquareTimesWrong)

/-- 'laws.FnExactOrderIn': WHATEVER THE INPUT: true; the input reads as it did. -/
def fnExactOrderInSpec : ChangeSpec := { name := "fnExactOrderIn", fn := fun _ => fun
  | [d1, d2] => { results := [.lit (.bool true)], args := [d1, d2] }
  | _ => none }
def fnExactOrderInRow : OpenClaim := { program := "ytddaiejpdiibkaa", sum := "9542e77e9609d2fbf16b957cab749da001ce15242025ea9c3f5f340acf9db01b", func := "loop.example/g01144/laws.FnExactOrderIn", spec := "fnExactOrderIn", unfollowed := true, recurses := true, apart := false }
def FnExactOrderInSaid : Prop := fnExactOrderInRow.holds Try.pinned (OpenSpec.ofChange fnExactOrderInSpec)

/-- ITS FALSE NEIGHBOUR: 'it returns false'. Refute it at one input. -/
def fnExactOrderInWrong : ChangeSpec := { name := "fnExactOrderIn", fn := fun _ => fun
  | [d1, d2] => { results := [.lit (.bool false)], args := [d1, d2] }
  | _ => none }
def FnExactOrderInWrongFalsely : Prop := fnExactOrderInRow.holds Try.pinned (OpenSpec.ofChange fnExactOrderInWrong)

/-- 'laws.FnExactRootTimes': WHATEVER THE INPUT: true; the input reads as it did. -/
def fnExactRootTimesSpec : ChangeSpec := { name := "fnExactRootTimes", fn := fun _ => fun
  | [d1, d2, d3] => { results := [.lit (.bool true)], args := [d1, d2, d3] }
  | _ => none }
def fnExactRootTimesRow : OpenClaim := { program := "ytddaiejpdiibkaa", sum := "9542e77e9609d2fbf16b957cab749da001ce15242025ea9c3f5f340acf9db01b", func := "loop.example/g01144/laws.FnExactRootTimes", spec := "fnExactRootTimes", unfollowed := true, recurses := true, apart := false }
def FnExactRootTimesSaid : Prop := fnExactRootTimesRow.holds Try.pinned (OpenSpec.ofChange fnExactRootTimesSpec)

/-- ITS FALSE NEIGHBOUR: 'it returns false'. Refute it at one input. -/
def fnExactRootTimesWrong : ChangeSpec := { name := "fnExactRootTimes", fn := fun _ => fun
  | [d1, d2, d3] => { results := [.lit (.bool false)], args := [d1, d2, d3] }
  | _ => none }
def FnExactRootTimesWrongFalsely : Prop := fnExactRootTimesRow.holds Try.pinned (OpenSpec.ofChange fnExactRootTimesWrong)

/-- 'laws.FnExactPowerIn': WHATEVER THE INPUT: true; the input reads as it did. -/
def fnExactPowerInSpec : ChangeSpec := { name := "fnExactPowerIn", fn := fun _ => fun
  | [d1, d2, d3] => { results := [.lit (.bool true)], args := [d1, d2, d3] }
  | _ => none }
def fnExactPowerInRow : OpenClaim := { program := "ytddaiejpdiibkaa", sum := "9542e77e9609d2fbf16b957cab749da001ce15242025ea9c3f5f340acf9db01b", func := "loop.example/g01144/laws.FnExactPowerIn", spec := "fnExactPowerIn", unfollowed := true, recurses := true, apart := false }
def FnExactPowerInSaid : Prop := fnExactPowerInRow.holds Try.pinned (OpenSpec.ofChange fnExactPowerInSpec)

/-- ITS FALSE NEIGHBOUR: 'it returns false'. Refute it at one input. -/
def fnExactPowerInWrong : ChangeSpec := { name := "fnExactPowerIn", fn := fun _ => fun
  | [d1, d2, d3] => { results := [.lit (.bool false)], args := [d1, d2, d3] }
  | _ => none }
def FnExactPowerInWrongFalsely : Prop := fnExactPowerInRow.holds Try.pinned (OpenSpec.ofChange fnExactPowerInWrong)

/-- 'laws.FnExactSameNet': WHATEVER THE INPUT: true; the input reads as it did. -/
def fnExactSameNetSpec : ChangeSpec := { name := "fnExactSameNet", fn := fun _ => fun
  | [d1, d2] => { results := [.lit (.bool true)], args := [d1, d2] }
  | _ => none }
def fnExactSameNetRow : OpenClaim := { program := "ytddaiejpdiibkaa", sum := "9542e77e9609d2fbf16b957cab749da001ce15242025ea9c3f5f340acf9db01b", func := "loop.example/g01144/laws.FnExactSameNet", spec := "fnExactSameNet", unfollowed := true, recurses := true, apart := false }
def FnExactSameNetSaid : Prop := fnExactSameNetRow.holds Try.pinned (OpenSpec.ofChange fnExactSameNetSpec)

/-- ITS FALSE NEIGHBOUR: 'it returns false'. Refute it at one input. -/
def fnExactSameNetWrong : ChangeSpec := { name := "fnExactSameNet", fn := fun _ => fun
  | [d1, d2] => { results := [.lit (.bool false)], args := [d1, d2] }
  | _ => none }
def FnExactSameNetWrongFalsely : Prop := fnExactSameNetRow.holds Try.pinned (OpenSpec.ofChange fnExactSameNetWrong)

/-- 'laws.FnExactLogIn': WHATEVER THE INPUT: true; the input reads as it did. -/
def fnExactLogInSpec : ChangeSpec := { name := "fnExactLogIn", fn := fun _ => fun
  | [d1, d2, d3] => { results := [.lit (.bool true)], args := [d1, d2, d3] }
  | _ => none }
def fnExactLogInRow : OpenClaim := { program := "ytddaiejpdiibkaa", sum := "9542e77e9609d2fbf16b957cab749da001ce15242025ea9c3f5f340acf9db01b", func := "loop.example/g01144/laws.FnExactLogIn", spec := "fnExactLogIn", unfollowed := true, recurses := true, apart := false }
def FnExactLogInSaid : Prop := fnExactLogInRow.holds Try.pinned (OpenSpec.ofChange fnExactLogInSpec)

/-- ITS FALSE NEIGHBOUR: 'it returns false'. Refute it at one input. -/
def fnExactLogInWrong : ChangeSpec := { name := "fnExactLogIn", fn := fun _ => fun
  | [d1, d2, d3] => { results := [.lit (.bool false)], args := [d1, d2, d3] }
  | _ => none }
def FnExactLogInWrongFalsely : Prop := fnExactLogInRow.holds Try.pinned (OpenSpec.ofChange fnExactLogInWrong)

/-- 'laws.FnExactTraceIn': WHATEVER THE INPUT: true; the input reads as it did. -/
def fnExactTraceInSpec : ChangeSpec := { name := "fnExactTraceIn", fn := fun _ => fun
  | [d1, d2] => { results := [.lit (.bool true)], args := [d1, d2] }
  | _ => none }
def fnExactTraceInRow : OpenClaim := { program := "ytddaiejpdiibkaa", sum := "9542e77e9609d2fbf16b957cab749da001ce15242025ea9c3f5f340acf9db01b", func := "loop.example/g01144/laws.FnExactTraceIn", spec := "fnExactTraceIn", unfollowed := true, recurses := true, apart := false }
def FnExactTraceInSaid : Prop := fnExactTraceInRow.holds Try.pinned (OpenSpec.ofChange fnExactTraceInSpec)

/-- ITS FALSE NEIGHBOUR: 'it returns false'. Refute it at one input. -/
def fnExactTraceInWrong : ChangeSpec := { name := "fnExactTraceIn", fn := fun _ => fun
  | [d1, d2] => { results := [.lit (.bool false)], args := [d1, d2] }
  | _ => none }
def FnExactTraceInWrongFalsely : Prop := fnExactTraceInRow.holds Try.pinned (OpenSpec.ofChange fnExactTraceInWrong)

/-- 'laws.FnExactIsSpace': WHATEVER THE INPUT: true; the input reads as it did. -/
def fnExactIsSpaceSpec : ChangeSpec := { name := "fnExactIsSpace", fn := fun _ => fun
  | [d] => { results := [.lit (.bool true)], args := [d] }
  | _ => none }
def fnExactIsSpaceRow : OpenClaim := { program := "ytddaiejpdiibkaa", sum := "9542e77e9609d2fbf16b957cab749da001ce15242025ea9c3f5f340acf9db01b", func := "loop.example/g01144/laws.FnExactIsSpace", spec := "fnExactIsSpace", unfollowed := true, recurses := true, apart := false }
def FnExactIsSpaceSaid : Prop := fnExactIsSpaceRow.holds Try.pinned (OpenSpec.ofChange fnExactIsSpaceSpec)

/-- ITS FALSE NEIGHBOUR: 'it returns false'. Refute it at one input. -/
def fnExactIsSpaceWrong : ChangeSpec := { name := "fnExactIsSpace", fn := fun _ => fun
  | [d] => { results := [.lit (.bool false)], args := [d] }
  | _ => none }
def FnExactIsSpaceWrongFalsely : Prop := fnExactIsSpaceRow.holds Try.pinned (OpenSpec.ofChange fnExactIsSpaceWrong)

/-- 'laws.FnExactMulMatrices': WHATEVER THE INPUT: true; the input reads as it did. -/
def fnExactMulMatricesSpec : ChangeSpec := { name := "fnExactMulMatrices", fn := fun _ => fun
  | [d1, d2] => { results := [.lit (.bool true)], args := [d1, d2] }
  | _ => none }
def fnExactMulMatricesRow : OpenClaim := { program := "ytddaiejpdiibkaa", sum := "9542e77e9609d2fbf16b957cab749da001ce15242025ea9c3f5f340acf9db01b", func := "loop.example/g01144/laws.FnExactMulMatrices", spec := "fnExactMulMatrices", unfollowed := true, recurses := true, apart := false }
def FnExactMulMatricesSaid : Prop := fnExactMulMatricesRow.holds Try.pinned (OpenSpec.ofChange fnExactMulMatricesSpec)

/-- ITS FALSE NEIGHBOUR: 'it returns false'. Refute it at one input. -/
def fnExactMulMatricesWrong : ChangeSpec := { name := "fnExactMulMatrices", fn := fun _ => fun
  | [d1, d2] => { results := [.lit (.bool false)], args := [d1, d2] }
  | _ => none }
def FnExactMulMatricesWrongFalsely : Prop := fnExactMulMatricesRow.holds Try.pinned (OpenSpec.ofChange fnExactMulMatricesWrong)

/- THE SECOND FORM. 'bulk': how many values and letters a reading holds, each counted each time it is reached (what is shared counts as often as it is met; a slice's spare places count too). A statement '..UptoSaid' is the law's where the arguments, and the package variables that the reading takes, are together of bulk at most 1048576: NARROWER than '..Said'. Prove '..Said' where nothing that the law and all that it calls make is longer than what came in: it says more and counts as full. Else prove '..UptoSaid'. A law counts once. -/
mutual
def uptoBulk {H : Type} : DataW H → Nat
  | .lit (.string bytes) => bytes.length + 1
  | .lit _ => 1
  | .nil => 1
  | .ptr d => uptoBulk d + 1
  | .slice elems spare => uptoBulkAll elems + uptoBulkAll spare + 1
  | .agg parts => uptoBulkAll parts + 1
  | .iface _ d => uptoBulk d + 1
  | .map entries => uptoBulkEntries entries + 1
  | .held _ => 1
def uptoBulkAll {H : Type} : List (DataW H) → Nat
  | [] => 0
  | d :: r => uptoBulk d + uptoBulkAll r
def uptoBulkEntries {H : Type} : List (Lit × DataW H) → Nat
  | [] => 0
  | x :: r => uptoBulkEntry x + uptoBulkEntries r
def uptoBulkEntry {H : Type} : Lit × DataW H → Nat
  | (.string bytes, d) => bytes.length + uptoBulk d + 1
  | (_, d) => uptoBulk d + 1
 end
def uptoSmall : (H : Type) → List (DataW H) → Bool := fun _ ds => decide (uptoBulkAll ds ≤ 1048576)
def OpenSpec.upto (s : _root_.Go.ChangeSpec) : _root_.Go.OpenSpec := { _root_.Go.OpenSpec.ofChange s with cond := some uptoSmall }

/-- 'laws.FnExactSplitIn', WHERE WHAT IT READS IS OF BULK AT MOST 1048576: true; the input reads as it did. -/
def fnExactSplitInUptoRow : OpenClaim := { program := "ytddaiejpdiibkaa", sum := "9542e77e9609d2fbf16b957cab749da001ce15242025ea9c3f5f340acf9db01b", func := "loop.example/g01144/laws.FnExactSplitIn", spec := "fnExactSplitIn", unfollowed := true, recurses := true, apart := false, narrowed := true }
def FnExactSplitInUptoSaid : Prop := fnExactSplitInUptoRow.holds Try.pinned (OpenSpec.upto fnExactSplitInSpec)

/-- 'laws.FnInverses', WHERE WHAT IT READS IS OF BULK AT MOST 1048576: true; the input reads as it did. -/
def fnInversesUptoRow : OpenClaim := { program := "ytddaiejpdiibkaa", sum := "9542e77e9609d2fbf16b957cab749da001ce15242025ea9c3f5f340acf9db01b", func := "loop.example/g01144/laws.FnInverses", spec := "fnInverses", unfollowed := true, recurses := true, apart := false, narrowed := true }
def FnInversesUptoSaid : Prop := fnInversesUptoRow.holds Try.pinned (OpenSpec.upto fnInversesSpec)

/-- 'laws.FnExactTurnMatrix', WHERE WHAT IT READS IS OF BULK AT MOST 1048576: true; the input reads as it did. -/
def fnExactTurnMatrixUptoRow : OpenClaim := { program := "ytddaiejpdiibkaa", sum := "9542e77e9609d2fbf16b957cab749da001ce15242025ea9c3f5f340acf9db01b", func := "loop.example/g01144/laws.FnExactTurnMatrix", spec := "fnExactTurnMatrix", unfollowed := true, recurses := true, apart := false, narrowed := true }
def FnExactTurnMatrixUptoSaid : Prop := fnExactTurnMatrixUptoRow.holds Try.pinned (OpenSpec.upto fnExactTurnMatrixSpec)

/-- 'laws.FnExactSquareTimes', WHERE WHAT IT READS IS OF BULK AT MOST 1048576: true; the input reads as it did. -/
def fnExactSquareTimesUptoRow : OpenClaim := { program := "ytddaiejpdiibkaa", sum := "9542e77e9609d2fbf16b957cab749da001ce15242025ea9c3f5f340acf9db01b", func := "loop.example/g01144/laws.FnExactSquareTimes", spec := "fnExactSquareTimes", unfollowed := true, recurses := true, apart := false, narrowed := true }
def FnExactSquareTimesUptoSaid : Prop := fnExactSquareTimesUptoRow.holds Try.pinned (OpenSpec.upto fnExactSquareTimesSpec)

/-- 'laws.FnExactOrderIn', WHERE WHAT IT READS IS OF BULK AT MOST 1048576: true; the input reads as it did. -/
def fnExactOrderInUptoRow : OpenClaim := { program := "ytddaiejpdiibkaa", sum := "9542e77e9609d2fbf16b957cab749da001ce15242025ea9c3f5f340acf9db01b", func := "loop.example/g01144/laws.FnExactOrderIn", spec := "fnExactOrderIn", unfollowed := true, recurses := true, apart := false, narrowed := true }
def FnExactOrderInUptoSaid : Prop := fnExactOrderInUptoRow.holds Try.pinned (OpenSpec.upto fnExactOrderInSpec)

/-- 'laws.FnExactRootTimes', WHERE WHAT IT READS IS OF BULK AT MOST 1048576: true; the input reads as it did. -/
def fnExactRootTimesUptoRow : OpenClaim := { program := "ytddaiejpdiibkaa", sum := "9542e77e9609d2fbf16b957cab749da001ce15242025ea9c3f5f340acf9db01b", func := "loop.example/g01144/laws.FnExactRootTimes", spec := "fnExactRootTimes", unfollowed := true, recurses := true, apart := false, narrowed := true }
def FnExactRootTimesUptoSaid : Prop := fnExactRootTimesUptoRow.holds Try.pinned (OpenSpec.upto fnExactRootTimesSpec)

/-- 'laws.FnExactPowerIn', WHERE WHAT IT READS IS OF BULK AT MOST 1048576: true; the input reads as it did. -/
def fnExactPowerInUptoRow : OpenClaim := { program := "ytddaiejpdiibkaa", sum := "9542e77e9609d2fbf16b957cab749da001ce15242025ea9c3f5f340acf9db01b", func := "loop.example/g01144/laws.FnExactPowerIn", spec := "fnExactPowerIn", unfollowed := true, recurses := true, apart := false, narrowed := true }
def FnExactPowerInUptoSaid : Prop := fnExactPowerInUptoRow.holds Try.pinned (OpenSpec.upto fnExactPowerInSpec)

/-- 'laws.FnExactSameNet', WHERE WHAT IT READS IS OF BULK AT MOST 1048576: true; the input reads as it did. -/
def fnExactSameNetUptoRow : OpenClaim := { program := "ytddaiejpdiibkaa", sum := "9542e77e9609d2fbf16b957cab749da001ce15242025ea9c3f5f340acf9db01b", func := "loop.example/g01144/laws.FnExactSameNet", spec := "fnExactSameNet", unfollowed := true, recurses := true, apart := false, narrowed := true }
def FnExactSameNetUptoSaid : Prop := fnExactSameNetUptoRow.holds Try.pinned (OpenSpec.upto fnExactSameNetSpec)

/-- 'laws.FnExactLogIn', WHERE WHAT IT READS IS OF BULK AT MOST 1048576: true; the input reads as it did. -/
def fnExactLogInUptoRow : OpenClaim := { program := "ytddaiejpdiibkaa", sum := "9542e77e9609d2fbf16b957cab749da001ce15242025ea9c3f5f340acf9db01b", func := "loop.example/g01144/laws.FnExactLogIn", spec := "fnExactLogIn", unfollowed := true, recurses := true, apart := false, narrowed := true }
def FnExactLogInUptoSaid : Prop := fnExactLogInUptoRow.holds Try.pinned (OpenSpec.upto fnExactLogInSpec)

/-- 'laws.FnExactTraceIn', WHERE WHAT IT READS IS OF BULK AT MOST 1048576: true; the input reads as it did. -/
def fnExactTraceInUptoRow : OpenClaim := { program := "ytddaiejpdiibkaa", sum := "9542e77e9609d2fbf16b957cab749da001ce15242025ea9c3f5f340acf9db01b", func := "loop.example/g01144/laws.FnExactTraceIn", spec := "fnExactTraceIn", unfollowed := true, recurses := true, apart := false, narrowed := true }
def FnExactTraceInUptoSaid : Prop := fnExactTraceInUptoRow.holds Try.pinned (OpenSpec.upto fnExactTraceInSpec)

/-- 'laws.FnExactIsSpace', WHERE WHAT IT READS IS OF BULK AT MOST 1048576: true; the input reads as it did. -/
def fnExactIsSpaceUptoRow : OpenClaim := { program := "ytddaiejpdiibkaa", sum := "9542e77e9609d2fbf16b957cab749da001ce15242025ea9c3f5f340acf9db01b", func := "loop.example/g01144/laws.FnExactIsSpace", spec := "fnExactIsSpace", unfollowed := true, recurses := true, apart := false, narrowed := true }
def FnExactIsSpaceUptoSaid : Prop := fnExactIsSpaceUptoRow.holds Try.pinned (OpenSpec.upto fnExactIsSpaceSpec)

/-- 'laws.FnExactMulMatrices', WHERE WHAT IT READS IS OF BULK AT MOST 1048576: true; the input reads as it did. -/
def fnExactMulMatricesUptoRow : OpenClaim := { program := "ytddaiejpdiibkaa", sum := "9542e77e9609d2fbf16b957cab749da001ce15242025ea9c3f5f340acf9db01b", func := "loop.example/g01144/laws.FnExactMulMatrices", spec := "fnExactMulMatrices", unfollowed := true, recurses := true, apart := false, narrowed := true }
def FnExactMulMatricesUptoSaid : Prop := fnExactMulMatricesUptoRow.holds Try.pinned (OpenSpec.upto fnExactMulMatricesSpec)

end Rows
end Go.Proofs.Ytddaiejpdiibkaa
