/-
  No cell of these rows narrows 'for every input' (looked for: loops, veiled, ifaces, maps, wideKeys, modest, calm, conditions, laid).
  DERIVED. THE GIVEN ROWS OF THIS SEAT. 12 by the template 'for every input the law returns true; each argument reads behind the call as it read before'; 0 by the template 'total and deterministic' (their statements: YtkebapmicgkcdaaTotals.lean).
  GIVEN WITH THE SEED: the statements are not yours to turn. If you find one false, say at which input.
  Laid BY PROGRAM, IN A SANDBOX (cutbox-rows.mjs): the forced cells as the released guide's own fill.sh prints them over the translation 0ffab17473dc3caf… (all of the seat's roots in one cut). By AI agents, Wed Nov 11 2026. No macro, syntax, notation, axiom, sorry.
-/
import Derived.Test.YtkebapmicgkcdaaChecked
import GoSem.Claim
import GoSem.ClaimJoined
import GoSem.ClaimMapViews
import Derived.JoinedTies
import Derived.KernelRfl
namespace Go.Proofs.Ytkebapmicgkcdaa
/- THE CELL 'sum', in the pinned program and in every row, IS THE sha256 OF THE DUMP (.gsa) THAT YtkebapmicgkcdaaProg.lean LOADS. Nothing in Lean hashes anything: it is a label: what it is worth is what the hold of that sum in a sandbox is worth. -/
noncomputable def Try.pinned : Pinned := { name := "ytkebapmicgkcdaa", sum := "0ffab17473dc3caff57958ecb13b0733120a42abee7523a0c0e4caeda6e5f909", checked := Try.checked }
namespace Rows
def none {H : Type} : Left H := { results := [], args := [] }

/-- 'laws.FnExactConstants': WHATEVER THE INPUT: true; the input reads as it did. -/
def fnExactConstantsSpec : ChangeSpec := { name := "fnExactConstants", fn := fun _ => fun
  | [] => { results := [.lit (.bool true)], args := [] }
  | _ => none }
def fnExactConstantsRow : OpenClaim := { program := "ytkebapmicgkcdaa", sum := "0ffab17473dc3caff57958ecb13b0733120a42abee7523a0c0e4caeda6e5f909", func := "loop.example/g01144/laws.FnExactConstants", spec := "fnExactConstants", apart := false }
def FnExactConstantsSaid : Prop := fnExactConstantsRow.holds Try.pinned (OpenSpec.ofChange fnExactConstantsSpec)

/-- ITS FALSE NEIGHBOUR: 'it returns false'. Refute it at one input. -/
def fnExactConstantsWrong : ChangeSpec := { name := "fnExactConstants", fn := fun _ => fun
  | [] => { results := [.lit (.bool false)], args := [] }
  | _ => none }
def FnExactConstantsWrongFalsely : Prop := fnExactConstantsRow.holds Try.pinned (OpenSpec.ofChange fnExactConstantsWrong)

/-- 'laws.FnExactCodeName': WHATEVER THE INPUT: true; the input reads as it did. -/
def fnExactCodeNameSpec : ChangeSpec := { name := "fnExactCodeName", fn := fun _ => fun
  | [d] => { results := [.lit (.bool true)], args := [d] }
  | _ => none }
def fnExactCodeNameRow : OpenClaim := { program := "ytkebapmicgkcdaa", sum := "0ffab17473dc3caff57958ecb13b0733120a42abee7523a0c0e4caeda6e5f909", func := "loop.example/g01144/laws.FnExactCodeName", spec := "fnExactCodeName", apart := false }
def FnExactCodeNameSaid : Prop := fnExactCodeNameRow.holds Try.pinned (OpenSpec.ofChange fnExactCodeNameSpec)

/-- ITS FALSE NEIGHBOUR: 'it returns false'. Refute it at one input. -/
def fnExactCodeNameWrong : ChangeSpec := { name := "fnExactCodeName", fn := fun _ => fun
  | [d] => { results := [.lit (.bool false)], args := [d] }
  | _ => none }
def FnExactCodeNameWrongFalsely : Prop := fnExactCodeNameRow.holds Try.pinned (OpenSpec.ofChange fnExactCodeNameWrong)

/-- 'laws.FnExactGaussNumber': WHATEVER THE INPUT: true; the input reads as it did. -/
def fnExactGaussNumberSpec : ChangeSpec := { name := "fnExactGaussNumber", fn := fun _ => fun
  | [d1, d2] => { results := [.lit (.bool true)], args := [d1, d2] }
  | _ => none }
def fnExactGaussNumberRow : OpenClaim := { program := "ytkebapmicgkcdaa", sum := "0ffab17473dc3caff57958ecb13b0733120a42abee7523a0c0e4caeda6e5f909", func := "loop.example/g01144/laws.FnExactGaussNumber", spec := "fnExactGaussNumber", recurses := true, apart := false }
def FnExactGaussNumberSaid : Prop := fnExactGaussNumberRow.holds Try.pinned (OpenSpec.ofChange fnExactGaussNumberSpec)

/-- ITS FALSE NEIGHBOUR: 'it returns false'. Refute it at one input. -/
def fnExactGaussNumberWrong : ChangeSpec := { name := "fnExactGaussNumber", fn := fun _ => fun
  | [d1, d2] => { results := [.lit (.bool false)], args := [d1, d2] }
  | _ => none }
def FnExactGaussNumberWrongFalsely : Prop := fnExactGaussNumberRow.holds Try.pinned (OpenSpec.ofChange fnExactGaussNumberWrong)

/-- 'laws.FnExactDesignBound': WHATEVER THE INPUT: true; the input reads as it did. -/
def fnExactDesignBoundSpec : ChangeSpec := { name := "fnExactDesignBound", fn := fun _ => fun
  | [d1, d2, d3] => { results := [.lit (.bool true)], args := [d1, d2, d3] }
  | _ => none }
def fnExactDesignBoundRow : OpenClaim := { program := "ytkebapmicgkcdaa", sum := "0ffab17473dc3caff57958ecb13b0733120a42abee7523a0c0e4caeda6e5f909", func := "loop.example/g01144/laws.FnExactDesignBound", spec := "fnExactDesignBound", recurses := true, apart := false }
def FnExactDesignBoundSaid : Prop := fnExactDesignBoundRow.holds Try.pinned (OpenSpec.ofChange fnExactDesignBoundSpec)

/-- ITS FALSE NEIGHBOUR: 'it returns false'. Refute it at one input. -/
def fnExactDesignBoundWrong : ChangeSpec := { name := "fnExactDesignBound", fn := fun _ => fun
  | [d1, d2, d3] => { results := [.lit (.bool false)], args := [d1, d2, d3] }
  | _ => none }
def FnExactDesignBoundWrongFalsely : Prop := fnExactDesignBoundRow.holds Try.pinned (OpenSpec.ofChange fnExactDesignBoundWrong)

/-- 'laws.FnExactIsIrreducible': WHATEVER THE INPUT: true; the input reads as it did. -/
def fnExactIsIrreducibleSpec : ChangeSpec := { name := "fnExactIsIrreducible", fn := fun _ => fun
  | [d] => { results := [.lit (.bool true)], args := [d] }
  | _ => none }
def fnExactIsIrreducibleRow : OpenClaim := { program := "ytkebapmicgkcdaa", sum := "0ffab17473dc3caff57958ecb13b0733120a42abee7523a0c0e4caeda6e5f909", func := "loop.example/g01144/laws.FnExactIsIrreducible", spec := "fnExactIsIrreducible", apart := false }
def FnExactIsIrreducibleSaid : Prop := fnExactIsIrreducibleRow.holds Try.pinned (OpenSpec.ofChange fnExactIsIrreducibleSpec)

/-- ITS FALSE NEIGHBOUR: 'it returns false'. Refute it at one input. -/
def fnExactIsIrreducibleWrong : ChangeSpec := { name := "fnExactIsIrreducible", fn := fun _ => fun
  | [d] => { results := [.lit (.bool false)], args := [d] }
  | _ => none }
def FnExactIsIrreducibleWrongFalsely : Prop := fnExactIsIrreducibleRow.holds Try.pinned (OpenSpec.ofChange fnExactIsIrreducibleWrong)

/-- 'laws.FnFields': WHATEVER THE INPUT: true; the input reads as it did. -/
def fnFieldsSpec : ChangeSpec := { name := "fnFields", fn := fun _ => fun
  | [d1, d2] => { results := [.lit (.bool true)], args := [d1, d2] }
  | _ => none }
def fnFieldsRow : OpenClaim := { program := "ytkebapmicgkcdaa", sum := "0ffab17473dc3caff57958ecb13b0733120a42abee7523a0c0e4caeda6e5f909", func := "loop.example/g01144/laws.FnFields", spec := "fnFields", unfollowed := true, recurses := true, apart := false }
def FnFieldsSaid : Prop := fnFieldsRow.holds Try.pinned (OpenSpec.ofChange fnFieldsSpec)

/-- ITS FALSE NEIGHBOUR: 'it returns false'. Refute it at one input. -/
def fnFieldsWrong : ChangeSpec := { name := "fnFields", fn := fun _ => fun
  | [d1, d2] => { results := [.lit (.bool false)], args := [d1, d2] }
  | _ => none }
def FnFieldsWrongFalsely : Prop := fnFieldsRow.holds Try.pinned (OpenSpec.ofChange fnFieldsWrong)

/-- 'laws.FnExactCountNear': WHATEVER THE INPUT: true; the input reads as it did. -/
def fnExactCountNearSpec : ChangeSpec := { name := "fnExactCountNear", fn := fun _ => fun
  | [d1, d2, d3] => { results := [.lit (.bool true)], args := [d1, d2, d3] }
  | _ => none }
def fnExactCountNearRow : OpenClaim := { program := "ytkebapmicgkcdaa", sum := "0ffab17473dc3caff57958ecb13b0733120a42abee7523a0c0e4caeda6e5f909", func := "loop.example/g01144/laws.FnExactCountNear", spec := "fnExactCountNear", recurses := true, apart := false }
def FnExactCountNearSaid : Prop := fnExactCountNearRow.holds Try.pinned (OpenSpec.ofChange fnExactCountNearSpec)

/-- ITS FALSE NEIGHBOUR: 'it returns false'. Refute it at one input. -/
def fnExactCountNearWrong : ChangeSpec := { name := "fnExactCountNear", fn := fun _ => fun
  | [d1, d2, d3] => { results := [.lit (.bool false)], args := [d1, d2, d3] }
  | _ => none }
def FnExactCountNearWrongFalsely : Prop := fnExactCountNearRow.holds Try.pinned (OpenSpec.ofChange fnExactCountNearWrong)

/-- 'laws.FnExactCountRanks': WHATEVER THE INPUT: true; the input reads as it did. -/
def fnExactCountRanksSpec : ChangeSpec := { name := "fnExactCountRanks", fn := fun _ => fun
  | [d1, d2, d3] => { results := [.lit (.bool true)], args := [d1, d2, d3] }
  | _ => none }
def fnExactCountRanksRow : OpenClaim := { program := "ytkebapmicgkcdaa", sum := "0ffab17473dc3caff57958ecb13b0733120a42abee7523a0c0e4caeda6e5f909", func := "loop.example/g01144/laws.FnExactCountRanks", spec := "fnExactCountRanks", recurses := true, apart := false }
def FnExactCountRanksSaid : Prop := fnExactCountRanksRow.holds Try.pinned (OpenSpec.ofChange fnExactCountRanksSpec)

/-- ITS FALSE NEIGHBOUR: 'it returns false'. Refute it at one input. -/
def fnExactCountRanksWrong : ChangeSpec := { name := "fnExactCountRanks", fn := fun _ => fun
  | [d1, d2, d3] => { results := [.lit (.bool false)], args := [d1, d2, d3] }
  | _ => none }
def FnExactCountRanksWrongFalsely : Prop := fnExactCountRanksRow.holds Try.pinned (OpenSpec.ofChange fnExactCountRanksWrong)

/-- 'laws.FnExactValidField': WHATEVER THE INPUT: true; the input reads as it did. -/
def fnExactValidFieldSpec : ChangeSpec := { name := "fnExactValidField", fn := fun _ => fun
  | [d] => { results := [.lit (.bool true)], args := [d] }
  | _ => none }
def fnExactValidFieldRow : OpenClaim := { program := "ytkebapmicgkcdaa", sum := "0ffab17473dc3caff57958ecb13b0733120a42abee7523a0c0e4caeda6e5f909", func := "loop.example/g01144/laws.FnExactValidField", spec := "fnExactValidField", apart := false }
def FnExactValidFieldSaid : Prop := fnExactValidFieldRow.holds Try.pinned (OpenSpec.ofChange fnExactValidFieldSpec)

/-- ITS FALSE NEIGHBOUR: 'it returns false'. Refute it at one input. -/
def fnExactValidFieldWrong : ChangeSpec := { name := "fnExactValidField", fn := fun _ => fun
  | [d] => { results := [.lit (.bool false)], args := [d] }
  | _ => none }
def FnExactValidFieldWrongFalsely : Prop := fnExactValidFieldRow.holds Try.pinned (OpenSpec.ofChange fnExactValidFieldWrong)

/-- 'laws.FnExactSameMatrix': WHATEVER THE INPUT: true; the input reads as it did. -/
def fnExactSameMatrixSpec : ChangeSpec := { name := "fnExactSameMatrix", fn := fun _ => fun
  | [d1, d2] => { results := [.lit (.bool true)], args := [d1, d2] }
  | _ => none }
def fnExactSameMatrixRow : OpenClaim := { program := "ytkebapmicgkcdaa", sum := "0ffab17473dc3caff57958ecb13b0733120a42abee7523a0c0e4caeda6e5f909", func := "loop.example/g01144/laws.FnExactSameMatrix", spec := "fnExactSameMatrix", apart := false }
def FnExactSameMatrixSaid : Prop := fnExactSameMatrixRow.holds Try.pinned (OpenSpec.ofChange fnExactSameMatrixSpec)

/-- ITS FALSE NEIGHBOUR: 'it returns false'. Refute it at one input. -/
def fnExactSameMatrixWrong : ChangeSpec := { name := "fnExactSameMatrix", fn := fun _ => fun
  | [d1, d2] => { results := [.lit (.bool false)], args := [d1, d2] }
  | _ => none }
def FnExactSameMatrixWrongFalsely : Prop := fnExactSameMatrixRow.holds Try.pinned (OpenSpec.ofChange fnExactSameMatrixWrong)

/-- 'laws.FnExactPackingBound': WHATEVER THE INPUT: true; the input reads as it did. -/
def fnExactPackingBoundSpec : ChangeSpec := { name := "fnExactPackingBound", fn := fun _ => fun
  | [d1, d2, d3] => { results := [.lit (.bool true)], args := [d1, d2, d3] }
  | _ => none }
def fnExactPackingBoundRow : OpenClaim := { program := "ytkebapmicgkcdaa", sum := "0ffab17473dc3caff57958ecb13b0733120a42abee7523a0c0e4caeda6e5f909", func := "loop.example/g01144/laws.FnExactPackingBound", spec := "fnExactPackingBound", recurses := true, apart := false }
def FnExactPackingBoundSaid : Prop := fnExactPackingBoundRow.holds Try.pinned (OpenSpec.ofChange fnExactPackingBoundSpec)

/-- ITS FALSE NEIGHBOUR: 'it returns false'. Refute it at one input. -/
def fnExactPackingBoundWrong : ChangeSpec := { name := "fnExactPackingBound", fn := fun _ => fun
  | [d1, d2, d3] => { results := [.lit (.bool false)], args := [d1, d2, d3] }
  | _ => none }
def FnExactPackingBoundWrongFalsely : Prop := fnExactPackingBoundRow.holds Try.pinned (OpenSpec.ofChange fnExactPackingBoundWrong)

/-- 'laws.FnExactValidMatrix': WHATEVER THE INPUT: true; the input reads as it did. -/
def fnExactValidMatrixSpec : ChangeSpec := { name := "fnExactValidMatrix", fn := fun _ => fun
  | [d] => { results := [.lit (.bool true)], args := [d] }
  | _ => none }
def fnExactValidMatrixRow : OpenClaim := { program := "ytkebapmicgkcdaa", sum := "0ffab17473dc3caff57958ecb13b0733120a42abee7523a0c0e4caeda6e5f909", func := "loop.example/g01144/laws.FnExactValidMatrix", spec := "fnExactValidMatrix", unfollowed := true, recurses := true, apart := false }
def FnExactValidMatrixSaid : Prop := fnExactValidMatrixRow.holds Try.pinned (OpenSpec.ofChange fnExactValidMatrixSpec)

/-- ITS FALSE NEIGHBOUR: 'it returns false'. Refute it at one input. -/
def fnExactValidMatrixWrong : ChangeSpec := { name := "fnExactValidMatrix", fn := fun _ => fun
  | [d] => { results := [.lit (.bool false)], args := [d] }
  | _ => none }
def FnExactValidMatrixWrongFalsely : Prop := fnExactValidMatrixRow.holds Try.pinned (OpenSpec.ofChange fnExactValidMatrixWrong)

/- THE SECOND FORM. 'bulk': how many values and letters a reading holds, each counted each time it is reached (what is shared counts as often as it is met; a slice's spare places count too). A statement '..UptoSaid' is the law's where the arguments, and the package variables that the reading takes, are together of bulk at most 1048576: NARROWER than '..Said'. Prove '..Said' where nothing that the law and all that it calls make is longer than what came in: it says more and counts as full. Else prove '..UptoSaid'. A law counts once. -/
mutual
def uptoBulk {H : Type} : DataW H → Nat
  | .lit (.string bytes) => bytes.length + 1
  | .lit _ => 1
  | .nil => 1
  | .ptr d => uptoBulk d + 1
  | .slice elems spare => uptoBulkAll elems + uptoBulkAll spare + 1
  | .agg parts => uptoBulkAll parts + 1
  | .iface _ d => uptoBulk d + 1
  | .map entries => uptoBulkEntries entries + 1
  | .held _ => 1
def uptoBulkAll {H : Type} : List (DataW H) → Nat
  | [] => 0
  | d :: r => uptoBulk d + uptoBulkAll r
def uptoBulkEntries {H : Type} : List (Lit × DataW H) → Nat
  | [] => 0
  | x :: r => uptoBulkEntry x + uptoBulkEntries r
def uptoBulkEntry {H : Type} : Lit × DataW H → Nat
  | (.string bytes, d) => bytes.length + uptoBulk d + 1
  | (_, d) => uptoBulk d + 1
 end
def uptoSmall : (H : Type) → List (DataW H) → Bool := fun _ ds => decide (uptoBulkAll ds ≤ 1048576)
def OpenSpec.upto (s : _root_.Go.ChangeSpec) : _root_.Go.OpenSpec := { _root_.Go.OpenSpec.ofChange s with cond := some uptoSmall }

/-- 'laws.FnExactConstants', WHERE WHAT IT READS IS OF BULK AT MOST 1048576: true; the input reads as it did. -/
def fnExactConstantsUptoRow : OpenClaim := { program := "ytkebapmicgkcdaa", sum := "0ffab17473dc3caff57958ecb13b0733120a42abee7523a0c0e4caeda6e5f909", func := "loop.example/g01144/laws.FnExactConstants", spec := "fnExactConstants", apart := false, narrowed := true }
def FnExactConstantsUptoSaid : Prop := fnExactConstantsUptoRow.holds Try.pinned (OpenSpec.upto fnExactConstantsSpec)

/-- 'laws.FnExactCodeName', WHERE WHAT IT READS IS OF BULK AT MOST 1048576: true; the input reads as it did. -/
def fnExactCodeNameUptoRow : OpenClaim := { program := "ytkebapmicgkcdaa", sum := "0ffab17473dc3caff57958ecb13b0733120a42abee7523a0c0e4caeda6e5f909", func := "loop.example/g01144/laws.FnExactCodeName", spec := "fnExactCodeName", apart := false, narrowed := true }
def FnExactCodeNameUptoSaid : Prop := fnExactCodeNameUptoRow.holds Try.pinned (OpenSpec.upto fnExactCodeNameSpec)

/-- 'laws.FnExactGaussNumber', WHERE WHAT IT READS IS OF BULK AT MOST 1048576: true; the input reads as it did. -/
def fnExactGaussNumberUptoRow : OpenClaim := { program := "ytkebapmicgkcdaa", sum := "0ffab17473dc3caff57958ecb13b0733120a42abee7523a0c0e4caeda6e5f909", func := "loop.example/g01144/laws.FnExactGaussNumber", spec := "fnExactGaussNumber", recurses := true, apart := false, narrowed := true }
def FnExactGaussNumberUptoSaid : Prop := fnExactGaussNumberUptoRow.holds Try.pinned (OpenSpec.upto fnExactGaussNumberSpec)

/-- 'laws.FnExactDesignBound', WHERE WHAT IT READS IS OF BULK AT MOST 1048576: true; the input reads as it did. -/
def fnExactDesignBoundUptoRow : OpenClaim := { program := "ytkebapmicgkcdaa", sum := "0ffab17473dc3caff57958ecb13b0733120a42abee7523a0c0e4caeda6e5f909", func := "loop.example/g01144/laws.FnExactDesignBound", spec := "fnExactDesignBound", recurses := true, apart := false, narrowed := true }
def FnExactDesignBoundUptoSaid : Prop := fnExactDesignBoundUptoRow.holds Try.pinned (OpenSpec.upto fnExactDesignBoundSpec)

/-- 'laws.FnExactIsIrreducible', WHERE WHAT IT READS IS OF BULK AT MOST 1048576: true; the input reads as it did. -/
def fnExactIsIrreducibleUptoRow : OpenClaim := { program := "ytkebapmicgkcdaa", sum := "0ffab17473dc3caff57958ecb13b0733120a42abee7523a0c0e4caeda6e5f909", func := "loop.example/g01144/laws.FnExactIsIrreducible", spec := "fnExactIsIrreducible", apart := false, narrowed := true }
def FnExactIsIrreducibleUptoSaid : Prop := fnExactIsIrreducibleUptoRow.holds Try.pinned (OpenSpec.upto fnExactIsIrreducibleSpec)

/-- 'laws.FnFields', WHERE WHAT IT READS IS OF BULK AT MOST 1048576: true; the input reads as it did. -/
def fnFieldsUptoRow : OpenClaim := { program := "ytkebapmicgkcdaa", sum := "0ffab17473dc3caff57958ecb13b0733120a42abee7523a0c0e4caeda6e5f909", func := "loop.example/g01144/laws.FnFields", spec := "fnFields", unfollowed := true, recurses := true, apart := false, narrowed := true }
def FnFieldsUptoSaid : Prop := fnFieldsUptoRow.holds Try.pinned (OpenSpec.upto fnFieldsSpec)

/-- 'laws.FnExactCountNear', WHERE WHAT IT READS IS OF BULK AT MOST 1048576: true; the input reads as it did. -/
def fnExactCountNearUptoRow : OpenClaim := { program := "ytkebapmicgkcdaa", sum := "0ffab17473dc3caff57958ecb13b0733120a42abee7523a0c0e4caeda6e5f909", func := "loop.example/g01144/laws.FnExactCountNear", spec := "fnExactCountNear", recurses := true, apart := false, narrowed := true }
def FnExactCountNearUptoSaid : Prop := fnExactCountNearUptoRow.holds Try.pinned (OpenSpec.upto fnExactCountNearSpec)

/-- 'laws.FnExactCountRanks', WHERE WHAT IT READS IS OF BULK AT MOST 1048576: true; the input reads as it did. -/
def fnExactCountRanksUptoRow : OpenClaim := { program := "ytkebapmicgkcdaa", sum := "0ffab17473dc3caff57958ecb13b0733120a42abee7523a0c0e4caeda6e5f909", func := "loop.example/g01144/laws.FnExactCountRanks", spec := "fnExactCountRanks", recurses := true, apart := false, narrowed := true }
def FnExactCountRanksUptoSaid : Prop := fnExactCountRanksUptoRow.holds Try.pinned (OpenSpec.upto fnExactCountRanksSpec)

/-- 'laws.FnExactValidField', WHERE WHAT IT READS IS OF BULK AT MOST 1048576: true; the input reads as it did. -/
def fnExactValidFieldUptoRow : OpenClaim := { program := "ytkebapmicgkcdaa", sum := "0ffab17473dc3caff57958ecb13b0733120a42abee7523a0c0e4caeda6e5f909", func := "loop.example/g01144/laws.FnExactValidField", spec := "fnExactValidField", apart := false, narrowed := true }
def FnExactValidFieldUptoSaid : Prop := fnExactValidFieldUptoRow.holds Try.pinned (OpenSpec.upto fnExactValidFieldSpec)

/-- 'laws.FnExactSameMatrix', WHERE WHAT IT READS IS OF BULK AT MOST 1048576: true; the input reads as it did. -/
def fnExactSameMatrixUptoRow : OpenClaim := { program := "ytkebapmicgkcdaa", sum := "0ffab17473dc3caff57958ecb13b0733120a42abee7523a0c0e4caeda6e5f909", func := "loop.example/g01144/laws.FnExactSameMatrix", spec := "fnExactSameMatrix", apart := false, narrowed := true }
def FnExactSameMatrixUptoSaid : Prop := fnExactSameMatrixUptoRow.holds Try.pinned (OpenSpec.upto fnExactSameMatrixSpec)

/-- 'laws.FnExactPackingBound', WHERE WHAT IT READS IS OF BULK AT MOST 1048576: true; the input reads as it did. -/
def fnExactPackingBoundUptoRow : OpenClaim := { program := "ytkebapmicgkcdaa", sum := "0ffab17473dc3caff57958ecb13b0733120a42abee7523a0c0e4caeda6e5f909", func := "loop.example/g01144/laws.FnExactPackingBound", spec := "fnExactPackingBound", recurses := true, apart := false, narrowed := true }
def FnExactPackingBoundUptoSaid : Prop := fnExactPackingBoundUptoRow.holds Try.pinned (OpenSpec.upto fnExactPackingBoundSpec)

/-- 'laws.FnExactValidMatrix', WHERE WHAT IT READS IS OF BULK AT MOST 1048576: true; the input reads as it did. -/
def fnExactValidMatrixUptoRow : OpenClaim := { program := "ytkebapmicgkcdaa", sum := "0ffab17473dc3caff57958ecb13b0733120a42abee7523a0c0e4caeda6e5f909", func := "loop.example/g01144/laws.FnExactValidMatrix", spec := "fnExactValidMatrix", unfollowed := true, recurses := true, apart := false, narrowed := true }
def FnExactValidMatrixUptoSaid : Prop := fnExactValidMatrixUptoRow.holds Try.pinned (OpenSpec.upto fnExactValidMatrixSpec)

end Rows
end Go.Proofs.Ytkebapmicgkcdaa
