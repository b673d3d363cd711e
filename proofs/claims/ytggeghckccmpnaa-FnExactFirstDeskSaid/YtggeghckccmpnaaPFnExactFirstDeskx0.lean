-- PRINTED BY print.sh 35421559b90ae4d0a3588c463048766b98c2df88dd9212a6774a882060cdf62d: not written by this session
import Derived.Test.YtggeghckccmpnaaProg
import Derived.Below
import Derived.Deep.Draws
import Derived.Deep.AppendLies
import Derived.Maps.AppendAt
import Derived.OwnWalk
import Derived.Laws.BytesArg
import Derived.Laws.MakeOwn
import Derived.Laws.OwnMore
import Derived.Deep.OwnRows
import Derived.Tactics
import Derived.Lib.ConvBytes
import Derived.Laws.Slices
import Derived.WalkKit
import Derived.KernelRfl
import Derived.RowKit3
import Derived.Deep.LoopGhost
import Derived.Deep.QuietTactic
import Derived.BigQuiet
import Derived.WideLaws
import Derived.Deep.DeepCutAuto
import Derived.Deep.CutBlock
import Derived.Deep.RegionHeld3
import Derived.Laws.Rows
import Derived.Lib.AppendStr
import Derived.ArgAppend
import Derived.Laws.IdiomCopy
import Derived.OrdersHeld
import Derived.Laws.BitsLemmas
import Derived.RowKit
import Derived.Test.YtggeghckccmpnaaWWords
import Derived.Test.YtggeghckccmpnaaWLast
import Derived.Test.YtggeghckccmpnaaWTab
import Derived.Test.YtggeghckccmpnaaWFour
import Derived.Test.YtggeghckccmpnaaWQPut
import Derived.Test.YtggeghckccmpnaaWApart
import Derived.Test.YtggeghckccmpnaaWArr
import Derived.Test.YtggeghckccmpnaaWZeros
import Derived.Test.YtggeghckccmpnaaWFoot
import Derived.Test.YtggeghckccmpnaaWKept
import Derived.Test.YtggeghckccmpnaaWShare
import Derived.Test.YtggeghckccmpnaaWN
import Derived.Test.YtggeghckccmpnaaWFootNe
import Derived.Test.YtggeghckccmpnaaWAt
import Derived.Test.YtggeghckccmpnaaWEqStruct
import Derived.Test.YtggeghckccmpnaaWRepsOne
import Derived.Test.YtggeghckccmpnaaWInv
import Derived.Test.YtggeghckccmpnaaWInvWords
import Derived.Test.YtggeghckccmpnaaWGuard
import Derived.Test.YtggeghckccmpnaaWNEv
import Derived.Test.YtggeghckccmpnaaWMore
namespace Go.Proofs.Ytggeghckccmpnaa.PFnExactFirstDesk
open Go.RowKit Go.Proofs.YtggeghckccmpnaaW.PrintWords Go.Proofs.YtggeghckccmpnaaW.PrintLast Go.Proofs.YtggeghckccmpnaaW.PrintMore
attribute [local go_sem] max2_int min2_int max_two min_two max_three min_three max_four min_four   -- for this text's walks alone
set_option linter.unusedVariables false
set_option linter.unusedSimpArgs false



def errW : Option Int → Value
  | none => .nilIface
  | some c => .iface 0 (.int .i64 c)
theorem errW_none : errW none = .nilIface := rfl
theorem errW_some (c : Int) : errW (some c) = .iface 0 (.int .i64 c) := rfl

-- the values' own types

end Go.Proofs.Ytggeghckccmpnaa.PFnExactFirstDesk
