import Derived.Test.YtgjkjoocnkdckaaZGChkTable
import Derived.Test.YtgjkjoocnkdckaaZPureChkBase
namespace Go.Proofs.Ytgjkjoocnkdckaa.PureC
open Go.RowKit Go.Proofs.Ytgjkjoocnkdckaa.PChk Go.Proofs.Ytgjkjoocnkdckaa.G Go.Proofs.YtgjkjoocnkdckaaW.PrintWords Go.Proofs.YtgjkjoocnkdckaaW.PrintLast
set_option maxRecDepth 100000
theorem none_table : check_Table.f ([] : List S23) = some (0, 6) := by decide +kernel
theorem base_table : check_Table.f baseL = some (0, 0) := by decide +kernel
end Go.Proofs.Ytgjkjoocnkdckaa.PureC
