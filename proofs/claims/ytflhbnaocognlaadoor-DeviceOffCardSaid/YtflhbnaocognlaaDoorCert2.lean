/- cert.Make. -/
import Derived.Test.YtflhbnaocognlaaDoorRows
import Derived.Test.YtflhbnaocognlaaDoorNum
import Derived.Test.YtflhbnaocognlaaDoorBase
import Derived.Test.YtflhbnaocognlaaDoorMeas
import Derived.Test.YtflhbnaocognlaaDoorKey
import Derived.Test.YtflhbnaocognlaaDoorCert
import Derived.WalkKit
import Derived.Lib.Hide
namespace Go.Proofs.YtflhbnaocognlaaDoor
open Go.RowKit

def cmE (x k q : Int) : Int := if okIn q then sgE x k q else 1
def cmV (x k q : Int) : Int × Int × Int := if cmE x k q = 0 then (q, sgP x k q, sgA x k q) else (0, 0, 0)


end Go.Proofs.YtflhbnaocognlaaDoor
