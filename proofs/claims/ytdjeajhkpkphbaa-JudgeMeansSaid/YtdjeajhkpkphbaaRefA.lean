/- The walks of the reference: measures and challenges. -/
import Derived.Test.YtdjeajhkpkphbaaRows
import Derived.Test.YtdjeajhkpkphbaaNum
import Derived.Test.YtdjeajhkpkphbaaBase
import Derived.Test.YtdjeajhkpkphbaaMeas
import Derived.WalkKit
import Derived.Lib.Hide
namespace Go.Proofs.Ytdjeajhkpkphbaa
open Go.RowKit





end Go.Proofs.Ytdjeajhkpkphbaa
