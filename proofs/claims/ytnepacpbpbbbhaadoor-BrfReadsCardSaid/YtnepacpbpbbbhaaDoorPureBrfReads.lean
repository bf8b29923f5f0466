/- The pure statement of BrfReads. -/
import Derived.Test.YtnepacpbpbbbhaaDoorPureBrfReads7
namespace Go.Proofs.YtnepacpbpbbbhaaDoor.Pure
theorem BrfReads : Go.Proofs.YtnepacpbpbbbhaaDoor.PBrf.styluslaw27_BrfReads.Pure := Go.Proofs.YtnepacpbpbbbhaaDoor.PureB.BrfReads
end Go.Proofs.YtnepacpbpbbbhaaDoor.Pure
