-- Laid by xprint.py, a program of this session's, out of the translation.
import Derived.Test.YtdnicaponolmmaaDoorProg
import Derived.Below
import Derived.Deep.Draws
import Derived.Deep.AppendLies
import Derived.Maps.AppendAt
import Derived.OwnWalk
import Derived.Laws.BytesArg
import Derived.Laws.MakeOwn
import Derived.Laws.OwnMore
import Derived.Deep.OwnRows
import Derived.Tactics
import Derived.Lib.ConvBytes
import Derived.Laws.Slices
import Derived.WalkKit
import Derived.KernelRfl
import Derived.RowKit3
import Derived.Deep.LoopGhost
import Derived.Deep.QuietTactic
import Derived.BigQuiet
import Derived.WideLaws
import Derived.Deep.DeepCutAuto
import Derived.Deep.CutBlock
import Derived.Deep.RegionHeld3
import Derived.Laws.Rows
import Derived.Lib.AppendStr
import Derived.ArgAppend
import Derived.Laws.IdiomCopy
import Derived.OrdersHeld
import Derived.Laws.BitsLemmas
import Derived.RowKit
import Derived.Lib.AppendIntMem
import Derived.Test.YtdnicaponolmmaaDoorShelf
import Derived.Test.YtdnicaponolmmaaDoorWWords
import Derived.Test.YtdnicaponolmmaaDoorWLast
import Derived.Test.YtdnicaponolmmaaDoorWTab
import Derived.Test.YtdnicaponolmmaaDoorWFour
import Derived.Test.YtdnicaponolmmaaDoorWQPut
import Derived.Test.YtdnicaponolmmaaDoorWApart
import Derived.Test.YtdnicaponolmmaaDoorWArr
import Derived.Test.YtdnicaponolmmaaDoorWZeros
import Derived.Test.YtdnicaponolmmaaDoorWFoot
import Derived.Test.YtdnicaponolmmaaDoorWKept
import Derived.Test.YtdnicaponolmmaaDoorWShare
import Derived.Test.YtdnicaponolmmaaDoorWN
import Derived.Test.YtdnicaponolmmaaDoorWFootNe
import Derived.Test.YtdnicaponolmmaaDoorWAt
import Derived.Test.YtdnicaponolmmaaDoorWEqStruct
import Derived.Test.YtdnicaponolmmaaDoorWRepsOne
import Derived.Test.YtdnicaponolmmaaDoorWInv
import Derived.Test.YtdnicaponolmmaaDoorWInvWords
import Derived.Test.YtdnicaponolmmaaDoorWGuard
import Derived.Test.YtdnicaponolmmaaDoorWNEv
import Derived.Test.YtdnicaponolmmaaDoorWMore
import Derived.Test.YtdnicaponolmmaaDoorE
namespace Go.Proofs.YtdnicaponolmmaaDoor.X
open Go.RowKit Go.Proofs.YtdnicaponolmmaaDoorW.PrintWords Go.Proofs.YtdnicaponolmmaaDoorW.PrintLast Go.Proofs.YtdnicaponolmmaaDoorW.PrintMore
attribute [local go_sem] max2_int min2_int max_two min_two max_three min_three max_four min_four x_isSome x_str_gtr x_str_leq x_str_geq   -- for this text's walks alone
set_option linter.unusedVariables false
set_option linter.unusedSimpArgs false



def errW : Option Int → Value
  | none => .nilIface
  | some c => .iface 0 (.int .i64 c)
theorem errW_none : errW none = .nilIface := rfl
theorem errW_some (c : Int) : errW (some c) = .iface 0 (.int .i64 c) := rfl

theorem info2 : (Tryd.prog.info? 2).map (fun i => (i.zero, i.size, i.bytes)) = some (some (.int .i64 0), 1, 8) := by kernel_rfl
theorem info5 : (Tryd.prog.info? 5).map (fun i => (i.zero, i.size, i.bytes)) = some (some (.int .u8 0), 1, 1) := by kernel_rfl
-- the values' own types

end Go.Proofs.YtdnicaponolmmaaDoor.X
