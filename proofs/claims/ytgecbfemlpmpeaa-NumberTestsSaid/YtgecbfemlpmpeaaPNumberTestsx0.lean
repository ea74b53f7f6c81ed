-- PRINTED BY print.sh 35421559b90ae4d0a3588c463048766b98c2df88dd9212a6774a882060cdf62d: not written by this session
import Derived.Test.YtgecbfemlpmpeaaProg
import Derived.Below
import Derived.Deep.Draws
import Derived.Deep.AppendLies
import Derived.Maps.AppendAt
import Derived.OwnWalk
import Derived.Laws.BytesArg
import Derived.Laws.MakeOwn
import Derived.Laws.OwnMore
import Derived.Deep.OwnRows
import Derived.Tactics
import Derived.Lib.ConvBytes
import Derived.Laws.Slices
import Derived.WalkKit
import Derived.KernelRfl
import Derived.RowKit3
import Derived.Deep.LoopGhost
import Derived.Deep.QuietTactic
import Derived.BigQuiet
import Derived.WideLaws
import Derived.Deep.DeepCutAuto
import Derived.Deep.CutBlock
import Derived.Deep.RegionHeld3
import Derived.Laws.Rows
import Derived.Lib.AppendStr
import Derived.ArgAppend
import Derived.Laws.IdiomCopy
import Derived.OrdersHeld
import Derived.Laws.BitsLemmas
import Derived.RowKit
import Derived.Test.YtgecbfemlpmpeaaWWords
import Derived.Test.YtgecbfemlpmpeaaWLast
import Derived.Test.YtgecbfemlpmpeaaWTab
import Derived.Test.YtgecbfemlpmpeaaWFour
import Derived.Test.YtgecbfemlpmpeaaWQPut
import Derived.Test.YtgecbfemlpmpeaaWApart
import Derived.Test.YtgecbfemlpmpeaaWArr
import Derived.Test.YtgecbfemlpmpeaaWZeros
import Derived.Test.YtgecbfemlpmpeaaWFoot
import Derived.Test.YtgecbfemlpmpeaaWKept
import Derived.Test.YtgecbfemlpmpeaaWShare
import Derived.Test.YtgecbfemlpmpeaaWN
import Derived.Test.YtgecbfemlpmpeaaWFootNe
import Derived.Test.YtgecbfemlpmpeaaWAt
import Derived.Test.YtgecbfemlpmpeaaWEqStruct
import Derived.Test.YtgecbfemlpmpeaaWRepsOne
import Derived.Test.YtgecbfemlpmpeaaWInv
import Derived.Test.YtgecbfemlpmpeaaWInvWords
import Derived.Test.YtgecbfemlpmpeaaWGuard
import Derived.Test.YtgecbfemlpmpeaaWNEv
import Derived.Test.YtgecbfemlpmpeaaWMore
namespace Go.Proofs.Ytgecbfemlpmpeaa.PNumberTests
open Go.RowKit Go.Proofs.YtgecbfemlpmpeaaW.PrintWords Go.Proofs.YtgecbfemlpmpeaaW.PrintLast Go.Proofs.YtgecbfemlpmpeaaW.PrintMore
attribute [local go_sem] max2_int min2_int max_two min_two max_three min_three max_four min_four   -- for this text's walks alone
set_option linter.unusedVariables false
set_option linter.unusedSimpArgs false



def errW : Option Int → Value
  | none => .nilIface
  | some c => .iface 0 (.int .i64 c)
theorem errW_none : errW none = .nilIface := rfl
theorem errW_some (c : Int) : errW (some c) = .iface 0 (.int .i64 c) := rfl

theorem info9 : (Try.prog.info? 9).map (fun i => (i.zero, i.size, i.bytes)) = some (some (.string ⟨#[]⟩), 1, 16) := by kernel_rfl
-- the values' own types

end Go.Proofs.Ytgecbfemlpmpeaa.PNumberTests
