import Derived.Test.YthpahcbmpoknmaaGreatDoorPzG74
import Derived.Test.YthpahcbmpoknmaaGreatDoorPzG75
set_option linter.all false
set_option maxRecDepth 100000
namespace Go.Proofs.YthpahcbmpoknmaaGreatDoor.fnExactExecuteLine
open Go.Proofs.Tryz Go Go.Proofs.YthpahcbmpoknmaaGreatDoor Go.ChangeShapes Go.WideShapes Go.ChangeAt Go.RowKit Go.Joins
def c1:Rows.fnExactExecuteLineRow.wfByText (OpenSpec.ofChange Rows.fnExactExecuteLineSpec)=true:=by kernel_rfl
def c2:Tryz.pinned.checked.prog.mainIs=some (Rows.fnExactExecuteLineCard.stood.harness.1,Rows.fnExactExecuteLineCard.stood.harness.2.toList):=by kernel_rfl
def c3 : prog.funcNamed "loop.example/g00520/laws.FnExactExecuteLine" = some 4 := by kernel_rfl
def c4:false=prog.looks []:=by kernel_rfl
def c6:([41,9].all λu=>!prog.wantsStandIn u)=true:=by kernel_rfl
theorem proved:Rows.FnExactExecuteLineCardSaid :=
 Claim7.holds_tied_plain_at .later [] [.data,.data,.data,.data,.pinned] true Rows.fnExactExecuteLineCard.stood.harness false
  ZK (λ_ h=>by cases h) c1 (λ_ h=>by cases h) fnExactExecuteLine_row_tie rfl ⟨rfl,rfl⟩ c2 rfl
  (λf Q K G=>by
    obtain rfl:f=4:=iv (c3.symm.trans K) |>.symm
    obtain rfl:Q=Tryz.f4:=(iv (func4.symm.trans G)).symm
    exact⟨c4,λj t H=>by
     rw[Tryz.params4]at H;have hm:t∈[41,9]:=by simpa using Array.mem_of_getElem? H
     exact(show prog.wantsStandIn t=false by simpa using fp.1 c6 t hm)⟩)
  c5
#print axioms proved
