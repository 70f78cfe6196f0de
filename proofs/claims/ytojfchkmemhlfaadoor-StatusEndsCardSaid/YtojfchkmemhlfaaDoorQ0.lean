-- Written by wip/tool/myprint.py, a program of this repo that drives the kit's print over hand-written contracts; Lean checks it.
import Derived.Test.YtojfchkmemhlfaaDoorProg
import Derived.Below
import Derived.Deep.Draws
import Derived.Deep.AppendLies
import Derived.Maps.AppendAt
import Derived.OwnWalk
import Derived.Laws.BytesArg
import Derived.Laws.MakeOwn
import Derived.Laws.OwnMore
import Derived.Deep.OwnRows
import Derived.Tactics
import Derived.Lib.ConvBytes
import Derived.Laws.Slices
import Derived.WalkKit
import Derived.KernelRfl
import Derived.RowKit3
import Derived.Deep.LoopGhost
import Derived.Deep.QuietTactic
import Derived.BigQuiet
import Derived.WideLaws
import Derived.Deep.DeepCutAuto
import Derived.Deep.CutBlock
import Derived.Deep.RegionHeld3
import Derived.Laws.Rows
import Derived.Lib.AppendStr
import Derived.ArgAppend
import Derived.Laws.IdiomCopy
import Derived.OrdersHeld
import Derived.Laws.BitsLemmas
import Derived.RowKit
import Derived.Test.YtojfchkmemhlfaaDoorMOwn
import Derived.WalkSpells
import Derived.Deep.RegionLaw
import Derived.Shelf.Abstract
import Derived.Test.YtojfchkmemhlfaaDoorShelf
import Derived.Test.YtojfchkmemhlfaaDoorMTab
import Derived.Test.YtojfchkmemhlfaaDoorWWords
import Derived.Test.YtojfchkmemhlfaaDoorWLast
import Derived.Test.YtojfchkmemhlfaaDoorWTab
import Derived.Test.YtojfchkmemhlfaaDoorWFour
import Derived.Test.YtojfchkmemhlfaaDoorWQPut
import Derived.Test.YtojfchkmemhlfaaDoorWApart
import Derived.Test.YtojfchkmemhlfaaDoorWArr
import Derived.Test.YtojfchkmemhlfaaDoorWZeros
import Derived.Test.YtojfchkmemhlfaaDoorWFoot
import Derived.Test.YtojfchkmemhlfaaDoorWKept
import Derived.Test.YtojfchkmemhlfaaDoorWShare
import Derived.Test.YtojfchkmemhlfaaDoorWN
import Derived.Test.YtojfchkmemhlfaaDoorWFootNe
import Derived.Test.YtojfchkmemhlfaaDoorWAt
import Derived.Test.YtojfchkmemhlfaaDoorWEqStruct
import Derived.Test.YtojfchkmemhlfaaDoorWRepsOne
import Derived.Test.YtojfchkmemhlfaaDoorWInv
import Derived.Test.YtojfchkmemhlfaaDoorWInvWords
import Derived.Test.YtojfchkmemhlfaaDoorWGuard
import Derived.Test.YtojfchkmemhlfaaDoorWNEv
import Derived.Test.YtojfchkmemhlfaaDoorWMore
namespace Go.Proofs.YtojfchkmemhlfaaDoor.Q
open Go.RowKit Go.Proofs.YtojfchkmemhlfaaDoorW.PrintWords Go.Proofs.YtojfchkmemhlfaaDoorW.PrintLast Go.Proofs.YtojfchkmemhlfaaDoorW.PrintMore Go.Proofs.YtojfchkmemhlfaaDoorM
attribute [local go_sem] max2_int min2_int max_two min_two max_three min_three max_four min_four   -- for this text's walks alone
set_option linter.unusedVariables false
set_option linter.unusedSimpArgs false



def errW : Option Int → Value
  | none => .nilIface
  | some c => .iface 0 (.int .i64 c)
theorem errW_none : errW none = .nilIface := rfl
theorem errW_some (c : Int) : errW (some c) = .iface 0 (.int .i64 c) := rfl

-- the values' own types

end Go.Proofs.YtojfchkmemhlfaaDoor.Q
