import Derived.Test.YthpahcbmpoknmaaGreatDoorCards
import Derived.Test.YthpahcbmpoknmaaGreatDoorTie
import Derived.Test.YthpahcbmpoknmaaGreatDoorPzG71
import Derived.Shelf.Vars
import Derived.SevenTiedAt
import Derived.LaidMore
import Derived.Lay
import Derived.Stop.Joined
import Derived.Stop.LaidErr
set_option linter.all false
set_option maxRecDepth 100000
namespace Go.Proofs.YthpahcbmpoknmaaGreatDoor.fnExactExecuteLine
open Value renaming string->atr
open Go.Proofs.Tryz Go Go.Proofs.YthpahcbmpoknmaaGreatDoor Go.ChangeShapes Go.WideShapes Go.ChangeAt Go.RowKit Go.Joins
def own:ownKnob prog.godebug=none:=by kernel_rfl
def pN:laidOutB prog=true:=by kernel_rfl
def JH {W : J} (h : laidMetH prog Rows.fnExactExecuteLineRow.laid W) : tIw W := by
 exact p'
def H0{W:J}(h:W.ShapedOpen prog):nf W :=
 cell_of_shapedOpen_int (t:=3) (zero:=#[U 0]) h GU k8 rfl k8 k8 O1
def yp(os:Os)(started:os.Started)(H:Type)(enc:TypeId×atY->H):
 ReturnsInHanded {} Tryz.checked os 4 .any (λw args=>(Rows.fnExactExecuteLineSpec.pre enc prog Tryz.f4 [] false w args/\laidMetH prog Rows.fnExactExecuteLineRow.laid w)/\sizedMet enc prog Tryz.f4 (OpenSpec.ofChange Rows.fnExactExecuteLineSpec) false w args)
  (Rows.fnExactExecuteLineSpec.post enc prog Tryz.f4 false true false false):=by
 refine jY (C:=Tryz.checked) (X:=λw _=>laidMetH prog Rows.fnExactExecuteLineRow.laid w) (λ_ _ _ hh h=>h.of_heap hh) own started k8 func4
  (ChangeSpec.witness_shaped (enc:=enc) (C:=Tryz.checked) (os:=os) (X:=λw _=>laidMetH prog Rows.fnExactExecuteLineRow.laid w) false (World.laidAll prog os Rows.fnExactExecuteLineRow.laid) #[.agg #[U 0,d9,d9],atr ⟨#[]⟩] 8 (World.laidAll_os _ _ _)
    (World.shaped_of_ZipB k8 k8) k8 k8 k8
    NA) ?_
 intro W base args ds gs before K hW hL hsh;have G:∀(j:Nat) t v,Tryz.f4.params[j]?=some t->args[j]?=some v->Value.okWide prog W .any base t v:=K;have hW':=hW;obtain⟨p,q,hA0,hV,rfl,KG,hnd⟩:=hW;have hA:DataW.TrodAll enc prog W 0 (λ_=>true) true Tryz.f4.params.toList args.toList ds p:=hA0;rw[Tryz.params4]at hA G;obtain⟨v0,vs0,d0,ds0,p0,q0,akQ,rfl,rfl,h0,r0⟩:=trodAll_cons hA;obtain⟨v1,vs1,d1,ds1,p1,q1,rfl,rfl,rfl,h1,r1⟩:=trodAll_cons r0;obtain⟨rfl,rfl,rfl⟩:=trodAll_nil r1;obtain rfl:args=#[v0,v1]:=by cases args;simp_all
 obtain⟨rfl,rfl⟩:=trodVars_none hV;have k0:=h0;have Z:∀x∈p0,x.block<W.heap.size:=by obtain⟨m,hm⟩:=k0;exact ZI m _ _ _ hm
 obtain⟨u0,s0,g0,y0,z0,t0,m0,m0',rfl,JB,Hl,JQ⟩:=Eo Tryz.underlying41 Tryz.underlying38 k8 k8 k8 k8 k8 k8 (G 0 41 v0 rfl rfl) h0;obtain⟨x0,e0,_,wf0⟩:=af O1 JB;obtain⟨a0,n0,c0,l0,rfl,I0⟩:=El ny O1 k8 Hl;obtain⟨b0,o0,j0,r0',rfl,R0⟩:=Em Tryz.underlying39 Tryz.underlying115 k8 k8 k8 k8 k8 O1 O1 JQ;obtain rfl:u0=U x0:=by simpa using e0
 have k1:=h1;have Q:∀x∈p1,x.block<W.heap.size:=by obtain⟨m,hm⟩:=k1;exact ZI m _ _ _ hm
 obtain⟨s1,rfl,rfl,rfl,J2⟩:=Go.ChangeMaps.open_string Me (G 1 9 v1 rfl rfl) h1;obtain⟨x1,rfl⟩:∃l,s1=bs l:=⟨s1.data.toList,by cases s1;rfl⟩;refine(ni I0 R0 (JH hL) (H0 hsh) x1).mono λe W' ⟨he,Ue⟩=>?_;subst he;exact⟨_,rfl,_,_,_,[],_,[],hW',trodAll_mk1 (shut_bool VO _),(dx (Below.trod pN k8 (nR k8) k0 Ue Z) (dx (Below.trod pN k8 (nR k8) k1 Ue Q) trodAll_mk0)),rfl,Ue.frame _,λh=>by cases h⟩
