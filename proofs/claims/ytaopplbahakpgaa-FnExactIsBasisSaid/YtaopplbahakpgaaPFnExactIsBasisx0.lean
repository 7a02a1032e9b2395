-- Written by this session's driver wip/tools/myprint.py over the kit's print, out of Lean's print of the translation, with own texts for what the print does not take. Lean checks it.
import Derived.Test.YtaopplbahakpgaaProg
import Derived.Below
import Derived.Deep.Draws
import Derived.Deep.AppendLies
import Derived.Maps.AppendAt
import Derived.OwnWalk
import Derived.Laws.BytesArg
import Derived.Laws.MakeOwn
import Derived.Laws.OwnMore
import Derived.Deep.OwnRows
import Derived.Tactics
import Derived.Lib.ConvBytes
import Derived.Laws.Slices
import Derived.WalkKit
import Derived.KernelRfl
import Derived.RowKit3
import Derived.Deep.LoopGhost
import Derived.Deep.QuietTactic
import Derived.BigQuiet
import Derived.WideLaws
import Derived.Deep.DeepCutAuto
import Derived.Deep.CutBlock
import Derived.Deep.RegionHeld3
import Derived.Laws.Rows
import Derived.Lib.AppendStr
import Derived.ArgAppend
import Derived.Laws.IdiomCopy
import Derived.OrdersHeld
import Derived.Laws.BitsLemmas
import Derived.RowKit
import Derived.Shelf.Abstract
import Derived.Maps.OwnSet
import Derived.Carry
import Derived.Lib.LazyBuf
import Derived.Test.YtaopplbahakpgaaWWords
import Derived.Test.YtaopplbahakpgaaWLast
import Derived.Test.YtaopplbahakpgaaWTab
import Derived.Test.YtaopplbahakpgaaWFour
import Derived.Test.YtaopplbahakpgaaWQPut
import Derived.Test.YtaopplbahakpgaaWApart
import Derived.Test.YtaopplbahakpgaaWArr
import Derived.Test.YtaopplbahakpgaaWZeros
import Derived.Test.YtaopplbahakpgaaWFoot
import Derived.Test.YtaopplbahakpgaaWKept
import Derived.Test.YtaopplbahakpgaaWShare
import Derived.Test.YtaopplbahakpgaaWN
import Derived.Test.YtaopplbahakpgaaWFootNe
import Derived.Test.YtaopplbahakpgaaWAt
import Derived.Test.YtaopplbahakpgaaWEqStruct
import Derived.Test.YtaopplbahakpgaaWRepsOne
import Derived.Test.YtaopplbahakpgaaWInv
import Derived.Test.YtaopplbahakpgaaWInvWords
import Derived.Test.YtaopplbahakpgaaWGuard
import Derived.Test.YtaopplbahakpgaaWNEv
import Derived.Test.YtaopplbahakpgaaWMore
namespace Go.Proofs.Ytaopplbahakpgaa.PFnExactIsBasis
open Go.RowKit Go.Proofs.YtaopplbahakpgaaW.PrintWords Go.Proofs.YtaopplbahakpgaaW.PrintLast Go.Proofs.YtaopplbahakpgaaW.PrintMore
attribute [local go_sem] max2_int min2_int max_two min_two max_three min_three max_four min_four   -- for this text's walks alone
set_option linter.unusedVariables false
set_option linter.unusedSimpArgs false



def errW : Option Int → Value
  | none => .nilIface
  | some c => .iface 0 (.int .i64 c)
theorem errW_none : errW none = .nilIface := rfl
theorem errW_some (c : Int) : errW (some c) = .iface 0 (.int .i64 c) := rfl

theorem info2 : (Try.prog.info? 2).map (fun i => (i.zero, i.size, i.bytes)) = some (some (.int .i64 0), 1, 8) := by kernel_rfl
-- the values' own types

end Go.Proofs.Ytaopplbahakpgaa.PFnExactIsBasis
