import Derived.Test.YthpahcbmpoknmaaGreatDoorPzG78
import Derived.Test.YthpahcbmpoknmaaGreatDoorPzG79
set_option linter.all false
set_option maxRecDepth 100000
namespace Go.Proofs.YthpahcbmpoknmaaGreatDoor.fnSession
open Go.Proofs.Tryz Go Go.Proofs.YthpahcbmpoknmaaGreatDoor Go.ChangeShapes Go.WideShapes Go.ChangeAt Go.RowKit Go.Joins
def c1:Rows.fnSessionRow.wfByText (OpenSpec.ofChange Rows.fnSessionSpec)=true:=by kernel_rfl
def c2:Tryz.pinned.checked.prog.mainIs=some (Rows.fnSessionCard.stood.harness.1,Rows.fnSessionCard.stood.harness.2.toList):=by kernel_rfl
def c3 : prog.funcNamed "loop.example/g00520/laws.FnSession" = some 3 := by kernel_rfl
def c4:false=prog.looks []:=by kernel_rfl
def c6:([22].all λu=>!prog.wantsStandIn u)=true:=by kernel_rfl
theorem proved:Rows.FnSessionCardSaid :=
 Claim7.holds_tied_plain_at .later [] [.data,.data,.data,.data,.pinned] true Rows.fnSessionCard.stood.harness false
  ZK (λ_ h=>by cases h) c1 (λ_ h=>by cases h) fnSession_row_tie rfl ⟨rfl,rfl⟩ c2 rfl
  (λf Q K G=>by
    obtain rfl:f=3:=iv (c3.symm.trans K) |>.symm
    obtain rfl:Q=Tryz.f3:=(iv (func3.symm.trans G)).symm
    exact⟨c4,λj t H=>by
     rw[Tryz.params3]at H;have hm:t∈[22]:=by simpa using Array.mem_of_getElem? H
     exact(show prog.wantsStandIn t=false by simpa using fp.1 c6 t hm)⟩)
  c5
#print axioms proved
