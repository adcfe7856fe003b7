import Derived.Test.YtooiaklfmodcbaaGreatDoorRtAllG71
set_option linter.all false
set_option maxRecDepth 100000
namespace Go.Proofs.YtooiaklfmodcbaaGreatDoor.fnExactRunSession
open Ending renaming returned->ar
open List renaming length->JL
open Obj renaming cells->QD
open Value renaming slice->GI,bool->bl,string->aE,pointer->aP
open Go.Proofs.Tryz Go Go.Proofs.YtooiaklfmodcbaaGreatDoor Go.ChangeShapes Go.WideShapes Go.ChangeAt Go.RowKit Go.Joins
theorem c1:Rows.fnExactRunSessionRow.wfByText (OpenSpec.ofChange Rows.fnExactRunSessionSpec)=true:=by kernel_rfl
theorem c2:Tryz.pinned.checked.prog.mainIs=some (Rows.fnExactRunSessionCard.stood.harness.1,Rows.fnExactRunSessionCard.stood.harness.2.toList):=by kernel_rfl
theorem c3 : prog.funcNamed "loop.example/g00520/laws.FnExactRunSession" = some 3 := by kernel_rfl
theorem c4:false=prog.looks []:=by kernel_rfl
theorem c5:false=Rows.fnExactRunSessionRow.goesBy Tryz.pinned.checked.prog:=by kernel_rfl
theorem c6:([9].all λu=>!prog.wantsStandIn u)=true:=by kernel_rfl
theorem proved:Rows.FnExactRunSessionCardSaid :=
 Claim7.holds_tied_plain_at .later [] [.data,.data,.data,.data,.pinned] true Rows.fnExactRunSessionCard.stood.harness false
  Ny (λ_ h=>by cases h) c1 (λ_ h=>by cases h) fnExactRunSession_row_tie rfl ⟨rfl,rfl⟩ c2 rfl
  (λf K H E=>by
    obtain rfl:f=3:=tu (c3.symm.trans H) |>.symm
    obtain rfl:K=Tryz.f3:=(tu (func3.symm.trans E)).symm
    exact⟨c4,λj t G=>by
     rw[Tryz.params3]at G;have hm:t∈[9]:=by simpa using Array.mem_of_getElem? G
     exact(show prog.wantsStandIn t=false by simpa using gy.1 c6 t hm)⟩)
  c5
#print axioms proved
end Go.Proofs.YtooiaklfmodcbaaGreatDoor.fnExactRunSession
