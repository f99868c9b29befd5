/- cert.Make. -/
import Derived.Test.YtnocigkfhdnhfaaDoorRows
import Derived.Test.YtnocigkfhdnhfaaDoorNum
import Derived.Test.YtnocigkfhdnhfaaDoorBase
import Derived.Test.YtnocigkfhdnhfaaDoorMeas
import Derived.Test.YtnocigkfhdnhfaaDoorKey
import Derived.Test.YtnocigkfhdnhfaaDoorCert
import Derived.WalkKit
import Derived.Lib.Hide
namespace Go.Proofs.YtnocigkfhdnhfaaDoor
open Go.RowKit

def cmE (x k q : Int) : Int := if okIn q then sgE x k q else 1
def cmV (x k q : Int) : Int × Int × Int := if cmE x k q = 0 then (q, sgP x k q, sgA x k q) else (0, 0, 0)


end Go.Proofs.YtnocigkfhdnhfaaDoor
