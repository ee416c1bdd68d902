-- Written by a program of this session's (wip/mk.py, over the kit's print.py); Lean checks it.
import Derived.Test.YtpoppdaaodmicaaProg
import Derived.Below
import Derived.Deep.Draws
import Derived.Deep.AppendLies
import Derived.Maps.AppendAt
import Derived.OwnWalk
import Derived.Laws.BytesArg
import Derived.Laws.MakeOwn
import Derived.Laws.OwnMore
import Derived.Deep.OwnRows
import Derived.Tactics
import Derived.Lib.ConvBytes
import Derived.Laws.Slices
import Derived.WalkKit
import Derived.KernelRfl
import Derived.RowKit3
import Derived.Deep.LoopGhost
import Derived.Deep.QuietTactic
import Derived.BigQuiet
import Derived.WideLaws
import Derived.Deep.DeepCutAuto
import Derived.Deep.CutBlock
import Derived.Deep.RegionHeld3
import Derived.Laws.Rows
import Derived.Lib.AppendStr
import Derived.ArgAppend
import Derived.Laws.IdiomCopy
import Derived.OrdersHeld
import Derived.Laws.BitsLemmas
import Derived.RowKit
import Derived.Test.YtpoppdaaodmicaaWWords
import Derived.Test.YtpoppdaaodmicaaWLast
import Derived.Test.YtpoppdaaodmicaaWTab
import Derived.Test.YtpoppdaaodmicaaWQPut
import Derived.Test.YtpoppdaaodmicaaWApart
import Derived.Test.YtpoppdaaodmicaaWArr
import Derived.Test.YtpoppdaaodmicaaWZeros
import Derived.Test.YtpoppdaaodmicaaWFoot
import Derived.Test.YtpoppdaaodmicaaWKept
import Derived.Test.YtpoppdaaodmicaaWShare
import Derived.Test.YtpoppdaaodmicaaWN
import Derived.Test.YtpoppdaaodmicaaWFootNe
import Derived.Test.YtpoppdaaodmicaaWAt
import Derived.Test.YtpoppdaaodmicaaWRepsOne
import Derived.Test.YtpoppdaaodmicaaWGuard
import Derived.Test.YtpoppdaaodmicaaWNEv
import Derived.Test.YtpoppdaaodmicaaWMore
namespace Go.Proofs.Ytpoppdaaodmicaa.Q
open Go.RowKit Go.Proofs.YtpoppdaaodmicaaW.PrintWords Go.Proofs.YtpoppdaaodmicaaW.PrintLast Go.Proofs.YtpoppdaaodmicaaW.PrintMore
attribute [local go_sem] max2_int min2_int max_two min_two max_three min_three max_four min_four   -- for this text's walks alone
set_option linter.unusedVariables false
set_option linter.unusedSimpArgs false

def errW : Option Int → Value
  | none => .nilIface
  | some c => .iface 0 (.int .i64 c)
theorem errW_none : errW none = .nilIface := rfl
theorem errW_some (c : Int) : errW (some c) = .iface 0 (.int .i64 c) := rfl

theorem info3 : (Try.prog.info? 3).map (fun i => (i.zero, i.size, i.bytes)) = some (some (.int .i64 0), 1, 8) := by kernel_rfl
-- the values' own types
/-! #### struct type 44 -/
structure S44 where
  f0 : Int
  f1 : Int
end Go.Proofs.Ytpoppdaaodmicaa.Q
