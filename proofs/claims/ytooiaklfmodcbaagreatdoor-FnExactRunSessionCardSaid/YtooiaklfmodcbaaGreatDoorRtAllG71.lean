import Derived.Test.YtooiaklfmodcbaaGreatDoorRtAllG65
set_option linter.all false
set_option maxRecDepth 100000
namespace Go.Proofs.YtooiaklfmodcbaaGreatDoor.fnExactRunSession
open Ending renaming returned->ar
open List renaming length->JL
open Obj renaming cells->QD
open Value renaming slice->GI,bool->bl,string->aE,pointer->aP
open Go.Proofs.Tryz Go Go.Proofs.YtooiaklfmodcbaaGreatDoor Go.ChangeShapes Go.WideShapes Go.ChangeAt Go.RowKit Go.Joins
def j1:laidOutB prog=true:=by kernel_rfl
def j2:(Rows.fnExactRunSessionRow.inPlace == prog.inPlace 3)=true:=by kernel_rfl
def j3:(Rows.fnExactRunSessionRow.unfollowed == prog.unfollowed 3)=true:=by kernel_rfl
def j4:(Rows.fnExactRunSessionRow.recurses == prog.recurses 3)=true:=by kernel_rfl
def j5:(Rows.fnExactRunSessionRow.named == prog.varsNamed 3)=true:=by kernel_rfl
def j6:mapsRowed prog=true:=by kernel_rfl
def nT:joinedFacts prog 3 Tryz.f3 Rows.fnExactRunSessionSpec Rows.fnExactRunSessionRow=true:=by
 unfold joinedFacts;rw[j1,j2,j3,j4,j5,j6]
 kernel_rfl
def Ny:Rows.FnExactRunSessionSaid :=
 OpenClaim.holds_of_wide 3 Tryz.f3 rfl rfl rfl rfl rfl rfl rfl ⟨rfl,rfl,rfl,rfl,rfl⟩ rfl rfl rfl rfl rfl j8 func3 nT
  (uf j8) (by unfold Func.isWrapper;first|(rw[f9 (by decide +kernel)];kernel_rfl)|(rw[f7 (by decide +kernel)];exact⟨rfl,rfl⟩))
  (λos started H enc _=>L3 os started H enc)
end Go.Proofs.YtooiaklfmodcbaaGreatDoor.fnExactRunSession
