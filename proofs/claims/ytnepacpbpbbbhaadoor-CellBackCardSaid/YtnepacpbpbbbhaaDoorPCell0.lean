-- Written by a program of this session (prt.py), out of the translation. Lean checks it.
import Derived.Test.YtnepacpbpbbbhaaDoorProg
import Derived.Below
import Derived.Deep.Draws
import Derived.Deep.AppendLies
import Derived.Maps.AppendAt
import Derived.OwnWalk
import Derived.Laws.BytesArg
import Derived.Laws.MakeOwn
import Derived.Laws.OwnMore
import Derived.Deep.OwnRows
import Derived.Tactics
import Derived.Lib.ConvBytes
import Derived.Laws.Slices
import Derived.WalkKit
import Derived.KernelRfl
import Derived.RowKit3
import Derived.Deep.LoopGhost
import Derived.Deep.QuietTactic
import Derived.BigQuiet
import Derived.WideLaws
import Derived.Deep.DeepCutAuto
import Derived.Deep.CutBlock
import Derived.Deep.RegionHeld3
import Derived.Laws.Rows
import Derived.Lib.AppendStr
import Derived.ArgAppend
import Derived.Laws.IdiomCopy
import Derived.OrdersHeld
import Derived.Laws.BitsLemmas
import Derived.RowKit
import Derived.Test.YtnepacpbpbbbhaaDoorGCellLib
import Derived.Test.YtnepacpbpbbbhaaDoorWWords
import Derived.Test.YtnepacpbpbbbhaaDoorWLast
import Derived.Test.YtnepacpbpbbbhaaDoorWTab
import Derived.Test.YtnepacpbpbbbhaaDoorWFour
import Derived.Test.YtnepacpbpbbbhaaDoorWQPut
import Derived.Test.YtnepacpbpbbbhaaDoorWApart
import Derived.Test.YtnepacpbpbbbhaaDoorWArr
import Derived.Test.YtnepacpbpbbbhaaDoorWZeros
import Derived.Test.YtnepacpbpbbbhaaDoorWFoot
import Derived.Test.YtnepacpbpbbbhaaDoorWKept
import Derived.Test.YtnepacpbpbbbhaaDoorWShare
import Derived.Test.YtnepacpbpbbbhaaDoorWN
import Derived.Test.YtnepacpbpbbbhaaDoorWFootNe
import Derived.Test.YtnepacpbpbbbhaaDoorWAt
import Derived.Test.YtnepacpbpbbbhaaDoorWEqStruct
import Derived.Test.YtnepacpbpbbbhaaDoorWRepsOne
import Derived.Test.YtnepacpbpbbbhaaDoorWInv
import Derived.Test.YtnepacpbpbbbhaaDoorWInvWords
import Derived.Test.YtnepacpbpbbbhaaDoorWGuard
import Derived.Test.YtnepacpbpbbbhaaDoorWNEv
import Derived.Test.YtnepacpbpbbbhaaDoorWMore
namespace Go.Proofs.YtnepacpbpbbbhaaDoor.PCell
open Go.RowKit Go.Proofs.YtnepacpbpbbbhaaDoor.G Go.Proofs.YtnepacpbpbbbhaaDoorW.PrintWords Go.Proofs.YtnepacpbpbbbhaaDoorW.PrintLast Go.Proofs.YtnepacpbpbbbhaaDoorW.PrintMore
attribute [local go_sem] max2_int min2_int max_two min_two max_three min_three max_four min_four   -- for this text's walks alone
set_option linter.unusedVariables false
set_option linter.unusedSimpArgs false



def errW : Option Int → Value
  | none => .nilIface
  | some c => .iface 0 (.int .i64 c)
theorem errW_none : errW none = .nilIface := rfl
theorem errW_some (c : Int) : errW (some c) = .iface 0 (.int .i64 c) := rfl

theorem info5 : (Tryd.prog.info? 5).map (fun i => (i.zero, i.size, i.bytes)) = some (some (.int .u8 0), 1, 1) := by kernel_rfl
theorem info9 : (Tryd.prog.info? 9).map (fun i => (i.zero, i.size, i.bytes)) = some (some (.string ⟨#[]⟩), 1, 16) := by kernel_rfl
-- the values' own types

end Go.Proofs.YtnepacpbpbbbhaaDoor.PCell
