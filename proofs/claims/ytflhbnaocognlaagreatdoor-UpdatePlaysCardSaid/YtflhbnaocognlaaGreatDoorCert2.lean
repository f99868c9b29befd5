/- cert.Make. -/
import Derived.Test.YtflhbnaocognlaaGreatDoorRows
import Derived.Test.YtflhbnaocognlaaGreatDoorNum
import Derived.Test.YtflhbnaocognlaaGreatDoorBase
import Derived.Test.YtflhbnaocognlaaGreatDoorMeas
import Derived.Test.YtflhbnaocognlaaGreatDoorKey
import Derived.Test.YtflhbnaocognlaaGreatDoorCert
import Derived.WalkKit
import Derived.Lib.Hide
namespace Go.Proofs.YtflhbnaocognlaaGreatDoor
open Go.RowKit

def cmE (x k q : Int) : Int := if okIn q then sgE x k q else 1
def cmV (x k q : Int) : Int × Int × Int := if cmE x k q = 0 then (q, sgP x k q, sgA x k q) else (0, 0, 0)


end Go.Proofs.YtflhbnaocognlaaGreatDoor
