import Derived.Test.YthpahcbmpoknmaaGreatDoorPzG73
set_option linter.all false
set_option maxRecDepth 100000
namespace Go.Proofs.YthpahcbmpoknmaaGreatDoor.fnExactExecuteLine
open Go.Proofs.Tryz Go Go.Proofs.YthpahcbmpoknmaaGreatDoor Go.ChangeShapes Go.WideShapes Go.ChangeAt Go.RowKit Go.Joins
def j1:laidOutB prog=true:=by kernel_rfl
def j2:(Rows.fnExactExecuteLineRow.inPlace == prog.inPlace 4)=true:=by kernel_rfl
def j3:(Rows.fnExactExecuteLineRow.unfollowed == prog.unfollowed 4)=true:=by kernel_rfl
def j4:(Rows.fnExactExecuteLineRow.recurses == prog.recurses 4)=true:=by kernel_rfl
def j5:(Rows.fnExactExecuteLineRow.named == prog.varsNamed 4)=true:=by kernel_rfl
def j6:mapsRowed prog=true:=by kernel_rfl
def wV:joinedFacts prog 4 Tryz.f4 Rows.fnExactExecuteLineSpec Rows.fnExactExecuteLineRow=true:=by
 unfold joinedFacts;rw[j1,j2,j3,j4,j5,j6]
 kernel_rfl
def ZK:Rows.FnExactExecuteLineSaid :=
 OpenClaim.holds_of_wide 4 Tryz.f4 rfl rfl rfl rfl rfl rfl rfl ⟨rfl,rfl,rfl,rfl,rfl⟩ rfl rfl rfl rfl rfl k8 func4 wV
  (nR k8) Jq
  (λos started H enc _=>yp os started H enc)
