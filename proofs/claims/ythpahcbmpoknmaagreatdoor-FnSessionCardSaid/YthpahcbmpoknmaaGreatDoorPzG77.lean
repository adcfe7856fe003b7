import Derived.Test.YthpahcbmpoknmaaGreatDoorCards
import Derived.Test.YthpahcbmpoknmaaGreatDoorTie
import Derived.Test.YthpahcbmpoknmaaGreatDoorPzG72
import Derived.Shelf.Vars
import Derived.SevenTiedAt
import Derived.LaidMore
import Derived.Lay
import Derived.Stop.Joined
import Derived.Stop.LaidErr
set_option linter.all false
set_option maxRecDepth 100000
namespace Go.Proofs.YthpahcbmpoknmaaGreatDoor.fnSession
open Value renaming slice->FB
open Go.Proofs.Tryz Go Go.Proofs.YthpahcbmpoknmaaGreatDoor Go.ChangeShapes Go.WideShapes Go.ChangeAt Go.RowKit Go.Joins
def own:ownKnob prog.godebug=none:=by kernel_rfl
def pN:laidOutB prog=true:=by kernel_rfl
def JH {W : J} (h : laidMetH prog Rows.fnSessionRow.laid W) : tIw W := by
 exact p'
def H0{W:J}(h:W.ShapedOpen prog):nf W :=
 cell_of_shapedOpen_int (t:=3) (zero:=#[U 0]) h GU k8 rfl k8 k8 O1
def yp(os:Os)(started:os.Started)(H:Type)(enc:TypeId×atY->H):
 ReturnsInHanded {} Tryz.checked os 3 .any (λw args=>(Rows.fnSessionSpec.pre enc prog Tryz.f3 [] false w args/\laidMetH prog Rows.fnSessionRow.laid w)/\sizedMet enc prog Tryz.f3 (OpenSpec.ofChange Rows.fnSessionSpec) false w args)
  (Rows.fnSessionSpec.post enc prog Tryz.f3 false true false false):=by
 refine jY (C:=Tryz.checked) (X:=λw _=>laidMetH prog Rows.fnSessionRow.laid w) (λ_ _ _ hh h=>h.of_heap hh) own started k8 func3
  (ChangeSpec.witness_shaped (enc:=enc) (C:=Tryz.checked) (os:=os) (X:=λw _=>laidMetH prog Rows.fnSessionRow.laid w) false (World.laidAll prog os Rows.fnSessionRow.laid) #[d9] 8 (World.laidAll_os _ _ _)
    (World.shaped_of_ZipB k8 k8) k8 k8 k8
    NA) ?_
 intro W base args ds gs before K hW hL hsh;have G:∀(j:Nat) t v,Tryz.f3.params[j]?=some t->args[j]?=some v->Value.okWide prog W .any base t v:=K;have hW':=hW;obtain⟨p,q,hA0,hV,rfl,KG,hnd⟩:=hW;have hA:DataW.TrodAll enc prog W 0 (λ_=>true) true Tryz.f3.params.toList args.toList ds p:=hA0;rw[Tryz.params3]at hA G;obtain⟨v0,vs0,d0,ds0,p0,q0,akQ,rfl,rfl,h0,r0⟩:=trodAll_cons hA;obtain⟨rfl,rfl,rfl⟩:=trodAll_nil r0;obtain rfl:args=#[v0]:=by cases args;simp_all
 obtain⟨rfl,rfl⟩:=trodVars_none hV;have k0:=h0;have Z:∀x∈p0,x.block<W.heap.size:=by obtain⟨m,hm⟩:=k0;exact ZI m _ _ _ hm
 obtain⟨a0,n0,c0,rfl⟩:=okWide_slice OZ (G 0 22 v0 rfl rfl);obtain⟨a0',Q,c0',e0,I0⟩:∃a n c,FB a0 n0 c0=FB a n c/\gT W a n c:=by obtain⟨fuel,hf⟩:=h0;exact Cq OZ Po k8 (by simpa[Value.cells]using hf)
 obtain⟨rfl,rfl,rfl⟩:a0=a0'/\n0=Q/\c0=c0':=by simpa using e0
 refine(zW I0 (JH hL) (H0 hsh)).mono λe W' ⟨he,Ue⟩=>?_;subst he;exact⟨_,rfl,_,_,_,[],_,[],hW',trodAll_mk1 (shut_bool VO _),(dx (Below.trod pN k8 (nR k8) k0 Ue Z) trodAll_mk0),rfl,Ue.frame _,λh=>by cases h⟩
