/-
  No cell of these rows narrows 'for every input' (looked for: loops, veiled, ifaces, maps, wideKeys, modest, calm, conditions, laid).
  DERIVED. THE GIVEN ROWS OF THIS SEAT. 12 by the template 'for every input the law returns true; each argument reads behind the call as it read before'; 0 by the template 'total and deterministic' (their statements: YtaopplbahakpgaaTotals.lean).
  GIVEN WITH THE SEED: the statements are not yours to turn. If you find one false, say at which input.
  Laid BY PROGRAM, IN A SANDBOX (cutbox-rows.mjs): the forced cells as the released guide's own fill.sh prints them over the translation 408f6d90e18da40e… (all of the seat's roots in one cut). By AI agents, Wed Nov 11 2026. No macro, syntax, notation, axiom, sorry.
-/
import Derived.Test.YtaopplbahakpgaaChecked
import GoSem.Claim
import GoSem.ClaimJoined
import GoSem.ClaimMapViews
import Derived.JoinedTies
import Derived.KernelRfl
namespace Go.Proofs.Ytaopplbahakpgaa
/- THE CELL 'sum', in the pinned program and in every row, IS THE sha256 OF THE DUMP (.gsa) THAT YtaopplbahakpgaaProg.lean LOADS. Nothing in Lean hashes anything: it is a label: what it is worth is what the hold of that sum in a sandbox is worth. -/
noncomputable def Try.pinned : Pinned := { name := "ytaopplbahakpgaa", sum := "408f6d90e18da40e147e8f572aec64d447363a940023351f9d4114c602b83cec", checked := Try.checked }
namespace Rows
def none {H : Type} : Left H := { results := [], args := [] }

/-- 'laws.FnExactInverseIn': WHATEVER THE INPUT: true; the input reads as it did. -/
def fnExactInverseInSpec : ChangeSpec := { name := "fnExactInverseIn", fn := fun _ => fun
  | [d1, d2] => { results := [.lit (.bool true)], args := [d1, d2] }
  | _ => none }
def fnExactInverseInRow : OpenClaim := { program := "ytaopplbahakpgaa", sum := "408f6d90e18da40e147e8f572aec64d447363a940023351f9d4114c602b83cec", func := "loop.example/g01144/laws.FnExactInverseIn", spec := "fnExactInverseIn", unfollowed := true, recurses := true, apart := false }
def FnExactInverseInSaid : Prop := fnExactInverseInRow.holds Try.pinned (OpenSpec.ofChange fnExactInverseInSpec)

/-- ITS FALSE NEIGHBOUR: 'it returns false'. Refute it at one input. -/
def fnExactInverseInWrong : ChangeSpec := { name := "fnExactInverseIn", fn := fun _ => fun
  | [d1, d2] => { results := [.lit (.bool false)], args := [d1, d2] }
  | _ => none }
def FnExactInverseInWrongFalsely : Prop := fnExactInverseInRow.holds Try.pinned (OpenSpec.ofChange fnExactInverseInWrong)

/-- 'laws.FnExactMinimalPoly': WHATEVER THE INPUT: true; the input reads as it did. -/
def fnExactMinimalPolySpec : ChangeSpec := { name := "fnExactMinimalPoly", fn := fun _ => fun
  | [d1, d2] => { results := [.lit (.bool true)], args := [d1, d2] }
  | _ => none }
def fnExactMinimalPolyRow : OpenClaim := { program := "ytaopplbahakpgaa", sum := "408f6d90e18da40e147e8f572aec64d447363a940023351f9d4114c602b83cec", func := "loop.example/g01144/laws.FnExactMinimalPoly", spec := "fnExactMinimalPoly", unfollowed := true, recurses := true, apart := false }
def FnExactMinimalPolySaid : Prop := fnExactMinimalPolyRow.holds Try.pinned (OpenSpec.ofChange fnExactMinimalPolySpec)

/-- ITS FALSE NEIGHBOUR: 'it returns false'. Refute it at one input. -/
def fnExactMinimalPolyWrong : ChangeSpec := { name := "fnExactMinimalPoly", fn := fun _ => fun
  | [d1, d2] => { results := [.lit (.bool false)], args := [d1, d2] }
  | _ => none }
def FnExactMinimalPolyWrongFalsely : Prop := fnExactMinimalPolyRow.holds Try.pinned (OpenSpec.ofChange fnExactMinimalPolyWrong)

/-- 'laws.FnExactEchelonOf': WHATEVER THE INPUT: true; the input reads as it did. -/
def fnExactEchelonOfSpec : ChangeSpec := { name := "fnExactEchelonOf", fn := fun _ => fun
  | [d] => { results := [.lit (.bool true)], args := [d] }
  | _ => none }
def fnExactEchelonOfRow : OpenClaim := { program := "ytaopplbahakpgaa", sum := "408f6d90e18da40e147e8f572aec64d447363a940023351f9d4114c602b83cec", func := "loop.example/g01144/laws.FnExactEchelonOf", spec := "fnExactEchelonOf", unfollowed := true, recurses := true, apart := false }
def FnExactEchelonOfSaid : Prop := fnExactEchelonOfRow.holds Try.pinned (OpenSpec.ofChange fnExactEchelonOfSpec)

/-- ITS FALSE NEIGHBOUR: 'it returns false'. Refute it at one input. -/
def fnExactEchelonOfWrong : ChangeSpec := { name := "fnExactEchelonOf", fn := fun _ => fun
  | [d] => { results := [.lit (.bool false)], args := [d] }
  | _ => none }
def FnExactEchelonOfWrongFalsely : Prop := fnExactEchelonOfRow.holds Try.pinned (OpenSpec.ofChange fnExactEchelonOfWrong)

/-- 'laws.FnExactConjugatesIn': WHATEVER THE INPUT: true; the input reads as it did. -/
def fnExactConjugatesInSpec : ChangeSpec := { name := "fnExactConjugatesIn", fn := fun _ => fun
  | [d1, d2] => { results := [.lit (.bool true)], args := [d1, d2] }
  | _ => none }
def fnExactConjugatesInRow : OpenClaim := { program := "ytaopplbahakpgaa", sum := "408f6d90e18da40e147e8f572aec64d447363a940023351f9d4114c602b83cec", func := "loop.example/g01144/laws.FnExactConjugatesIn", spec := "fnExactConjugatesIn", unfollowed := true, recurses := true, apart := false }
def FnExactConjugatesInSaid : Prop := fnExactConjugatesInRow.holds Try.pinned (OpenSpec.ofChange fnExactConjugatesInSpec)

/-- ITS FALSE NEIGHBOUR: 'it returns false'. Refute it at one input. -/
def fnExactConjugatesInWrong : ChangeSpec := { name := "fnExactConjugatesIn", fn := fun _ => fun
  | [d1, d2] => { results := [.lit (.bool false)], args := [d1, d2] }
  | _ => none }
def FnExactConjugatesInWrongFalsely : Prop := fnExactConjugatesInRow.holds Try.pinned (OpenSpec.ofChange fnExactConjugatesInWrong)

/-- 'laws.FnExactFoldLinear': WHATEVER THE INPUT: true; the input reads as it did. -/
def fnExactFoldLinearSpec : ChangeSpec := { name := "fnExactFoldLinear", fn := fun _ => fun
  | [d1, d2] => { results := [.lit (.bool true)], args := [d1, d2] }
  | _ => none }
def fnExactFoldLinearRow : OpenClaim := { program := "ytaopplbahakpgaa", sum := "408f6d90e18da40e147e8f572aec64d447363a940023351f9d4114c602b83cec", func := "loop.example/g01144/laws.FnExactFoldLinear", spec := "fnExactFoldLinear", unfollowed := true, recurses := true, apart := false }
def FnExactFoldLinearSaid : Prop := fnExactFoldLinearRow.holds Try.pinned (OpenSpec.ofChange fnExactFoldLinearSpec)

/-- ITS FALSE NEIGHBOUR: 'it returns false'. Refute it at one input. -/
def fnExactFoldLinearWrong : ChangeSpec := { name := "fnExactFoldLinear", fn := fun _ => fun
  | [d1, d2] => { results := [.lit (.bool false)], args := [d1, d2] }
  | _ => none }
def FnExactFoldLinearWrongFalsely : Prop := fnExactFoldLinearRow.holds Try.pinned (OpenSpec.ofChange fnExactFoldLinearWrong)

/-- 'laws.FnExactSpaceOf': WHATEVER THE INPUT: true; the input reads as it did. -/
def fnExactSpaceOfSpec : ChangeSpec := { name := "fnExactSpaceOf", fn := fun _ => fun
  | [d] => { results := [.lit (.bool true)], args := [d] }
  | _ => none }
def fnExactSpaceOfRow : OpenClaim := { program := "ytaopplbahakpgaa", sum := "408f6d90e18da40e147e8f572aec64d447363a940023351f9d4114c602b83cec", func := "loop.example/g01144/laws.FnExactSpaceOf", spec := "fnExactSpaceOf", unfollowed := true, recurses := true, apart := false }
def FnExactSpaceOfSaid : Prop := fnExactSpaceOfRow.holds Try.pinned (OpenSpec.ofChange fnExactSpaceOfSpec)

/-- ITS FALSE NEIGHBOUR: 'it returns false'. Refute it at one input. -/
def fnExactSpaceOfWrong : ChangeSpec := { name := "fnExactSpaceOf", fn := fun _ => fun
  | [d] => { results := [.lit (.bool false)], args := [d] }
  | _ => none }
def FnExactSpaceOfWrongFalsely : Prop := fnExactSpaceOfRow.holds Try.pinned (OpenSpec.ofChange fnExactSpaceOfWrong)

/-- 'laws.FnExactFirstGabidulin': WHATEVER THE INPUT: true; the input reads as it did. -/
def fnExactFirstGabidulinSpec : ChangeSpec := { name := "fnExactFirstGabidulin", fn := fun _ => fun
  | [d1, d2, d3] => { results := [.lit (.bool true)], args := [d1, d2, d3] }
  | _ => none }
def fnExactFirstGabidulinRow : OpenClaim := { program := "ytaopplbahakpgaa", sum := "408f6d90e18da40e147e8f572aec64d447363a940023351f9d4114c602b83cec", func := "loop.example/g01144/laws.FnExactFirstGabidulin", spec := "fnExactFirstGabidulin", unfollowed := true, recurses := true, apart := false }
def FnExactFirstGabidulinSaid : Prop := fnExactFirstGabidulinRow.holds Try.pinned (OpenSpec.ofChange fnExactFirstGabidulinSpec)

/-- ITS FALSE NEIGHBOUR: 'it returns false'. Refute it at one input. -/
def fnExactFirstGabidulinWrong : ChangeSpec := { name := "fnExactFirstGabidulin", fn := fun _ => fun
  | [d1, d2, d3] => { results := [.lit (.bool false)], args := [d1, d2, d3] }
  | _ => none }
def FnExactFirstGabidulinWrongFalsely : Prop := fnExactFirstGabidulinRow.holds Try.pinned (OpenSpec.ofChange fnExactFirstGabidulinWrong)

/-- 'laws.FnExactIsBasis': WHATEVER THE INPUT: true; the input reads as it did. -/
def fnExactIsBasisSpec : ChangeSpec := { name := "fnExactIsBasis", fn := fun _ => fun
  | [d1, d2] => { results := [.lit (.bool true)], args := [d1, d2] }
  | _ => none }
def fnExactIsBasisRow : OpenClaim := { program := "ytaopplbahakpgaa", sum := "408f6d90e18da40e147e8f572aec64d447363a940023351f9d4114c602b83cec", func := "loop.example/g01144/laws.FnExactIsBasis", spec := "fnExactIsBasis", unfollowed := true, recurses := true, apart := false }
def FnExactIsBasisSaid : Prop := fnExactIsBasisRow.holds Try.pinned (OpenSpec.ofChange fnExactIsBasisSpec)

/-- ITS FALSE NEIGHBOUR: 'it returns false'. Refute it at one input. -/
def fnExactIsBasisWrong : ChangeSpec := { name := "fnExactIsBasis", fn := fun _ => fun
  | [d1, d2] => { results := [.lit (.bool false)], args := [d1, d2] }
  | _ => none }
def FnExactIsBasisWrongFalsely : Prop := fnExactIsBasisRow.holds Try.pinned (OpenSpec.ofChange fnExactIsBasisWrong)

/-- 'laws.FnExactSumLinear': WHATEVER THE INPUT: true; the input reads as it did. -/
def fnExactSumLinearSpec : ChangeSpec := { name := "fnExactSumLinear", fn := fun _ => fun
  | [d1, d2, d3] => { results := [.lit (.bool true)], args := [d1, d2, d3] }
  | _ => none }
def fnExactSumLinearRow : OpenClaim := { program := "ytaopplbahakpgaa", sum := "408f6d90e18da40e147e8f572aec64d447363a940023351f9d4114c602b83cec", func := "loop.example/g01144/laws.FnExactSumLinear", spec := "fnExactSumLinear", unfollowed := true, recurses := true, apart := false }
def FnExactSumLinearSaid : Prop := fnExactSumLinearRow.holds Try.pinned (OpenSpec.ofChange fnExactSumLinearSpec)

/-- ITS FALSE NEIGHBOUR: 'it returns false'. Refute it at one input. -/
def fnExactSumLinearWrong : ChangeSpec := { name := "fnExactSumLinear", fn := fun _ => fun
  | [d1, d2, d3] => { results := [.lit (.bool false)], args := [d1, d2, d3] }
  | _ => none }
def FnExactSumLinearWrongFalsely : Prop := fnExactSumLinearRow.holds Try.pinned (OpenSpec.ofChange fnExactSumLinearWrong)

/-- 'laws.FnExactValueOf': WHATEVER THE INPUT: true; the input reads as it did. -/
def fnExactValueOfSpec : ChangeSpec := { name := "fnExactValueOf", fn := fun _ => fun
  | [d1, d2, d3] => { results := [.lit (.bool true)], args := [d1, d2, d3] }
  | _ => none }
def fnExactValueOfRow : OpenClaim := { program := "ytaopplbahakpgaa", sum := "408f6d90e18da40e147e8f572aec64d447363a940023351f9d4114c602b83cec", func := "loop.example/g01144/laws.FnExactValueOf", spec := "fnExactValueOf", unfollowed := true, recurses := true, apart := false }
def FnExactValueOfSaid : Prop := fnExactValueOfRow.holds Try.pinned (OpenSpec.ofChange fnExactValueOfSpec)

/-- ITS FALSE NEIGHBOUR: 'it returns false'. Refute it at one input. -/
def fnExactValueOfWrong : ChangeSpec := { name := "fnExactValueOf", fn := fun _ => fun
  | [d1, d2, d3] => { results := [.lit (.bool false)], args := [d1, d2, d3] }
  | _ => none }
def FnExactValueOfWrongFalsely : Prop := fnExactValueOfRow.holds Try.pinned (OpenSpec.ofChange fnExactValueOfWrong)

/-- 'laws.FnExactSpacesOf': WHATEVER THE INPUT: true; the input reads as it did. -/
def fnExactSpacesOfSpec : ChangeSpec := { name := "fnExactSpacesOf", fn := fun _ => fun
  | [d1, d2] => { results := [.lit (.bool true)], args := [d1, d2] }
  | _ => none }
def fnExactSpacesOfRow : OpenClaim := { program := "ytaopplbahakpgaa", sum := "408f6d90e18da40e147e8f572aec64d447363a940023351f9d4114c602b83cec", func := "loop.example/g01144/laws.FnExactSpacesOf", spec := "fnExactSpacesOf", unfollowed := true, recurses := true, apart := false }
def FnExactSpacesOfSaid : Prop := fnExactSpacesOfRow.holds Try.pinned (OpenSpec.ofChange fnExactSpacesOfSpec)

/-- ITS FALSE NEIGHBOUR: 'it returns false'. Refute it at one input. -/
def fnExactSpacesOfWrong : ChangeSpec := { name := "fnExactSpacesOf", fn := fun _ => fun
  | [d1, d2] => { results := [.lit (.bool false)], args := [d1, d2] }
  | _ => none }
def FnExactSpacesOfWrongFalsely : Prop := fnExactSpacesOfRow.holds Try.pinned (OpenSpec.ofChange fnExactSpacesOfWrong)

/-- 'laws.FnExactGreedySpaces': WHATEVER THE INPUT: true; the input reads as it did. -/
def fnExactGreedySpacesSpec : ChangeSpec := { name := "fnExactGreedySpaces", fn := fun _ => fun
  | [d1, d2, d3] => { results := [.lit (.bool true)], args := [d1, d2, d3] }
  | _ => none }
def fnExactGreedySpacesRow : OpenClaim := { program := "ytaopplbahakpgaa", sum := "408f6d90e18da40e147e8f572aec64d447363a940023351f9d4114c602b83cec", func := "loop.example/g01144/laws.FnExactGreedySpaces", spec := "fnExactGreedySpaces", unfollowed := true, recurses := true, apart := false }
def FnExactGreedySpacesSaid : Prop := fnExactGreedySpacesRow.holds Try.pinned (OpenSpec.ofChange fnExactGreedySpacesSpec)

/-- ITS FALSE NEIGHBOUR: 'it returns false'. Refute it at one input. -/
def fnExactGreedySpacesWrong : ChangeSpec := { name := "fnExactGreedySpaces", fn := fun _ => fun
  | [d1, d2, d3] => { results := [.lit (.bool false)], args := [d1, d2, d3] }
  | _ => none }
def FnExactGreedySpacesWrongFalsely : Prop := fnExactGreedySpacesRow.holds Try.pinned (OpenSpec.ofChange fnExactGreedySpacesWrong)

/- THE SECOND FORM. 'bulk': how many values and letters a reading holds, each counted each time it is reached (what is shared counts as often as it is met; a slice's spare places count too). A statement '..UptoSaid' is the law's where the arguments, and the package variables that the reading takes, are together of bulk at most 1048576: NARROWER than '..Said'. Prove '..Said' where nothing that the law and all that it calls make is longer than what came in: it says more and counts as full. Else prove '..UptoSaid'. A law counts once. -/
mutual
def uptoBulk {H : Type} : DataW H → Nat
  | .lit (.string bytes) => bytes.length + 1
  | .lit _ => 1
  | .nil => 1
  | .ptr d => uptoBulk d + 1
  | .slice elems spare => uptoBulkAll elems + uptoBulkAll spare + 1
  | .agg parts => uptoBulkAll parts + 1
  | .iface _ d => uptoBulk d + 1
  | .map entries => uptoBulkEntries entries + 1
  | .held _ => 1
def uptoBulkAll {H : Type} : List (DataW H) → Nat
  | [] => 0
  | d :: r => uptoBulk d + uptoBulkAll r
def uptoBulkEntries {H : Type} : List (Lit × DataW H) → Nat
  | [] => 0
  | x :: r => uptoBulkEntry x + uptoBulkEntries r
def uptoBulkEntry {H : Type} : Lit × DataW H → Nat
  | (.string bytes, d) => bytes.length + uptoBulk d + 1
  | (_, d) => uptoBulk d + 1
 end
def uptoSmall : (H : Type) → List (DataW H) → Bool := fun _ ds => decide (uptoBulkAll ds ≤ 1048576)
def OpenSpec.upto (s : _root_.Go.ChangeSpec) : _root_.Go.OpenSpec := { _root_.Go.OpenSpec.ofChange s with cond := some uptoSmall }

/-- 'laws.FnExactInverseIn', WHERE WHAT IT READS IS OF BULK AT MOST 1048576: true; the input reads as it did. -/
def fnExactInverseInUptoRow : OpenClaim := { program := "ytaopplbahakpgaa", sum := "408f6d90e18da40e147e8f572aec64d447363a940023351f9d4114c602b83cec", func := "loop.example/g01144/laws.FnExactInverseIn", spec := "fnExactInverseIn", unfollowed := true, recurses := true, apart := false, narrowed := true }
def FnExactInverseInUptoSaid : Prop := fnExactInverseInUptoRow.holds Try.pinned (OpenSpec.upto fnExactInverseInSpec)

/-- 'laws.FnExactMinimalPoly', WHERE WHAT IT READS IS OF BULK AT MOST 1048576: true; the input reads as it did. -/
def fnExactMinimalPolyUptoRow : OpenClaim := { program := "ytaopplbahakpgaa", sum := "408f6d90e18da40e147e8f572aec64d447363a940023351f9d4114c602b83cec", func := "loop.example/g01144/laws.FnExactMinimalPoly", spec := "fnExactMinimalPoly", unfollowed := true, recurses := true, apart := false, narrowed := true }
def FnExactMinimalPolyUptoSaid : Prop := fnExactMinimalPolyUptoRow.holds Try.pinned (OpenSpec.upto fnExactMinimalPolySpec)

/-- 'laws.FnExactEchelonOf', WHERE WHAT IT READS IS OF BULK AT MOST 1048576: true; the input reads as it did. -/
def fnExactEchelonOfUptoRow : OpenClaim := { program := "ytaopplbahakpgaa", sum := "408f6d90e18da40e147e8f572aec64d447363a940023351f9d4114c602b83cec", func := "loop.example/g01144/laws.FnExactEchelonOf", spec := "fnExactEchelonOf", unfollowed := true, recurses := true, apart := false, narrowed := true }
def FnExactEchelonOfUptoSaid : Prop := fnExactEchelonOfUptoRow.holds Try.pinned (OpenSpec.upto fnExactEchelonOfSpec)

/-- 'laws.FnExactConjugatesIn', WHERE WHAT IT READS IS OF BULK AT MOST 1048576: true; the input reads as it did. -/
def fnExactConjugatesInUptoRow : OpenClaim := { program := "ytaopplbahakpgaa", sum := "408f6d90e18da40e147e8f572aec64d447363a940023351f9d4114c602b83cec", func := "loop.example/g01144/laws.FnExactConjugatesIn", spec := "fnExactConjugatesIn", unfollowed := true, recurses := true, apart := false, narrowed := true }
def FnExactConjugatesInUptoSaid : Prop := fnExactConjugatesInUptoRow.holds Try.pinned (OpenSpec.upto fnExactConjugatesInSpec)

/-- 'laws.FnExactFoldLinear', WHERE WHAT IT READS IS OF BULK AT MOST 1048576: true; the input reads as it did. -/
def fnExactFoldLinearUptoRow : OpenClaim := { program := "ytaopplbahakpgaa", sum := "408f6d90e18da40e147e8f572aec64d447363a940023351f9d4114c602b83cec", func := "loop.example/g01144/laws.FnExactFoldLinear", spec := "fnExactFoldLinear", unfollowed := true, recurses := true, apart := false, narrowed := true }
def FnExactFoldLinearUptoSaid : Prop := fnExactFoldLinearUptoRow.holds Try.pinned (OpenSpec.upto fnExactFoldLinearSpec)

/-- 'laws.FnExactSpaceOf', WHERE WHAT IT READS IS OF BULK AT MOST 1048576: true; the input reads as it did. -/
def fnExactSpaceOfUptoRow : OpenClaim := { program := "ytaopplbahakpgaa", sum := "408f6d90e18da40e147e8f572aec64d447363a940023351f9d4114c602b83cec", func := "loop.example/g01144/laws.FnExactSpaceOf", spec := "fnExactSpaceOf", unfollowed := true, recurses := true, apart := false, narrowed := true }
def FnExactSpaceOfUptoSaid : Prop := fnExactSpaceOfUptoRow.holds Try.pinned (OpenSpec.upto fnExactSpaceOfSpec)

/-- 'laws.FnExactFirstGabidulin', WHERE WHAT IT READS IS OF BULK AT MOST 1048576: true; the input reads as it did. -/
def fnExactFirstGabidulinUptoRow : OpenClaim := { program := "ytaopplbahakpgaa", sum := "408f6d90e18da40e147e8f572aec64d447363a940023351f9d4114c602b83cec", func := "loop.example/g01144/laws.FnExactFirstGabidulin", spec := "fnExactFirstGabidulin", unfollowed := true, recurses := true, apart := false, narrowed := true }
def FnExactFirstGabidulinUptoSaid : Prop := fnExactFirstGabidulinUptoRow.holds Try.pinned (OpenSpec.upto fnExactFirstGabidulinSpec)

/-- 'laws.FnExactIsBasis', WHERE WHAT IT READS IS OF BULK AT MOST 1048576: true; the input reads as it did. -/
def fnExactIsBasisUptoRow : OpenClaim := { program := "ytaopplbahakpgaa", sum := "408f6d90e18da40e147e8f572aec64d447363a940023351f9d4114c602b83cec", func := "loop.example/g01144/laws.FnExactIsBasis", spec := "fnExactIsBasis", unfollowed := true, recurses := true, apart := false, narrowed := true }
def FnExactIsBasisUptoSaid : Prop := fnExactIsBasisUptoRow.holds Try.pinned (OpenSpec.upto fnExactIsBasisSpec)

/-- 'laws.FnExactSumLinear', WHERE WHAT IT READS IS OF BULK AT MOST 1048576: true; the input reads as it did. -/
def fnExactSumLinearUptoRow : OpenClaim := { program := "ytaopplbahakpgaa", sum := "408f6d90e18da40e147e8f572aec64d447363a940023351f9d4114c602b83cec", func := "loop.example/g01144/laws.FnExactSumLinear", spec := "fnExactSumLinear", unfollowed := true, recurses := true, apart := false, narrowed := true }
def FnExactSumLinearUptoSaid : Prop := fnExactSumLinearUptoRow.holds Try.pinned (OpenSpec.upto fnExactSumLinearSpec)

/-- 'laws.FnExactValueOf', WHERE WHAT IT READS IS OF BULK AT MOST 1048576: true; the input reads as it did. -/
def fnExactValueOfUptoRow : OpenClaim := { program := "ytaopplbahakpgaa", sum := "408f6d90e18da40e147e8f572aec64d447363a940023351f9d4114c602b83cec", func := "loop.example/g01144/laws.FnExactValueOf", spec := "fnExactValueOf", unfollowed := true, recurses := true, apart := false, narrowed := true }
def FnExactValueOfUptoSaid : Prop := fnExactValueOfUptoRow.holds Try.pinned (OpenSpec.upto fnExactValueOfSpec)

/-- 'laws.FnExactSpacesOf', WHERE WHAT IT READS IS OF BULK AT MOST 1048576: true; the input reads as it did. -/
def fnExactSpacesOfUptoRow : OpenClaim := { program := "ytaopplbahakpgaa", sum := "408f6d90e18da40e147e8f572aec64d447363a940023351f9d4114c602b83cec", func := "loop.example/g01144/laws.FnExactSpacesOf", spec := "fnExactSpacesOf", unfollowed := true, recurses := true, apart := false, narrowed := true }
def FnExactSpacesOfUptoSaid : Prop := fnExactSpacesOfUptoRow.holds Try.pinned (OpenSpec.upto fnExactSpacesOfSpec)

/-- 'laws.FnExactGreedySpaces', WHERE WHAT IT READS IS OF BULK AT MOST 1048576: true; the input reads as it did. -/
def fnExactGreedySpacesUptoRow : OpenClaim := { program := "ytaopplbahakpgaa", sum := "408f6d90e18da40e147e8f572aec64d447363a940023351f9d4114c602b83cec", func := "loop.example/g01144/laws.FnExactGreedySpaces", spec := "fnExactGreedySpaces", unfollowed := true, recurses := true, apart := false, narrowed := true }
def FnExactGreedySpacesUptoSaid : Prop := fnExactGreedySpacesUptoRow.holds Try.pinned (OpenSpec.upto fnExactGreedySpacesSpec)

end Rows
end Go.Proofs.Ytaopplbahakpgaa
