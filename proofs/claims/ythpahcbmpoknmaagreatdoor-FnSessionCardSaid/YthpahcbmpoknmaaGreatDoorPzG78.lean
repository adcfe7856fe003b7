import Derived.Test.YthpahcbmpoknmaaGreatDoorPzG77
set_option linter.all false
set_option maxRecDepth 100000
namespace Go.Proofs.YthpahcbmpoknmaaGreatDoor.fnSession
open Go.Proofs.Tryz Go Go.Proofs.YthpahcbmpoknmaaGreatDoor Go.ChangeShapes Go.WideShapes Go.ChangeAt Go.RowKit Go.Joins
def j1:laidOutB prog=true:=by kernel_rfl
def j2:(Rows.fnSessionRow.inPlace == prog.inPlace 3)=true:=by kernel_rfl
def j3:(Rows.fnSessionRow.unfollowed == prog.unfollowed 3)=true:=by kernel_rfl
def j4:(Rows.fnSessionRow.recurses == prog.recurses 3)=true:=by kernel_rfl
def j5:(Rows.fnSessionRow.named == prog.varsNamed 3)=true:=by kernel_rfl
def j6:mapsRowed prog=true:=by kernel_rfl
def wV:joinedFacts prog 3 Tryz.f3 Rows.fnSessionSpec Rows.fnSessionRow=true:=by
 unfold joinedFacts;rw[j1,j2,j3,j4,j5,j6]
 kernel_rfl
def ZK:Rows.FnSessionSaid :=
 OpenClaim.holds_of_wide 3 Tryz.f3 rfl rfl rfl rfl rfl rfl rfl ⟨rfl,rfl,rfl,rfl,rfl⟩ rfl rfl rfl rfl rfl k8 func3 wV
  (nR k8) Jq
  (λos started H enc _=>yp os started H enc)
