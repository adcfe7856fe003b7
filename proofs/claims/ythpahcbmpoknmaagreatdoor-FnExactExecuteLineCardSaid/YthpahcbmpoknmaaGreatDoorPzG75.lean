import Derived.Test.YthpahcbmpoknmaaGreatDoorPzG0
import Derived.Test.YthpahcbmpoknmaaGreatDoorCards
import Derived.Test.YthpahcbmpoknmaaGreatDoorTie
import Derived.Shelf.Vars
import Derived.SevenTiedAt
import Derived.LaidMore
import Derived.Lay
import Derived.Stop.Joined
import Derived.Stop.LaidErr
set_option linter.all false
set_option maxRecDepth 100000
namespace Go.Proofs.YthpahcbmpoknmaaGreatDoor.fnExactExecuteLine
open Go Go.Proofs.YthpahcbmpoknmaaGreatDoor Go.ChangeShapes Go.WideShapes Go.ChangeAt Go.RowKit
def c5:false=Rows.fnExactExecuteLineRow.goesBy Tryz.pinned.checked.prog:=by kernel_rfl
