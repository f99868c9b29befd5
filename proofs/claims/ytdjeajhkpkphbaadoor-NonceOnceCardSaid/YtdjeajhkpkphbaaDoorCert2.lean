/- cert.Make. -/
import Derived.Test.YtdjeajhkpkphbaaDoorRows
import Derived.Test.YtdjeajhkpkphbaaDoorNum
import Derived.Test.YtdjeajhkpkphbaaDoorBase
import Derived.Test.YtdjeajhkpkphbaaDoorMeas
import Derived.Test.YtdjeajhkpkphbaaDoorKey
import Derived.Test.YtdjeajhkpkphbaaDoorCert
import Derived.WalkKit
import Derived.Lib.Hide
namespace Go.Proofs.YtdjeajhkpkphbaaDoor
open Go.RowKit

def cmE (x k q : Int) : Int := if okIn q then sgE x k q else 1
def cmV (x k q : Int) : Int × Int × Int := if cmE x k q = 0 then (q, sgP x k q, sgA x k q) else (0, 0, 0)


end Go.Proofs.YtdjeajhkpkphbaaDoor
