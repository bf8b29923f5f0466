import Derived.Test.YtbpbniemjjhecaaZGChkTable
import Derived.Test.YtbpbniemjjhecaaZPureChkBase
namespace Go.Proofs.Ytbpbniemjjhecaa.PureC
open Go.RowKit Go.Proofs.Ytbpbniemjjhecaa.PChk Go.Proofs.Ytbpbniemjjhecaa.G Go.Proofs.YtbpbniemjjhecaaW.PrintWords Go.Proofs.YtbpbniemjjhecaaW.PrintLast
set_option maxRecDepth 100000
theorem base_table : check_Table.f baseL = some (0, 0) := by decide +kernel
end Go.Proofs.Ytbpbniemjjhecaa.PureC
