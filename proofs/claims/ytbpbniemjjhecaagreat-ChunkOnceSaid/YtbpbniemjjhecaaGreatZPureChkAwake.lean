import Derived.Test.YtbpbniemjjhecaaGreatZGChkTable
import Derived.Test.YtbpbniemjjhecaaGreatZPureChkClash
namespace Go.Proofs.YtbpbniemjjhecaaGreat.PureC
open Go.RowKit Go.Proofs.YtbpbniemjjhecaaGreat.PChk Go.Proofs.YtbpbniemjjhecaaGreat.G Go.Proofs.YtbpbniemjjhecaaGreatW.PrintWords Go.Proofs.YtbpbniemjjhecaaGreatW.PrintLast
set_option maxRecDepth 100000
theorem base_table : check_Table.f baseL = some (0, 0) := by decide +kernel
end Go.Proofs.YtbpbniemjjhecaaGreat.PureC
