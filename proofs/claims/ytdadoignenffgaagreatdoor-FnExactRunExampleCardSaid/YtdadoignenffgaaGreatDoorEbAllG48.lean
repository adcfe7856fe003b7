import Derived.Test.YtdadoignenffgaaGreatDoorEbAllG20
import Derived.Deep.CutBlock
set_option linter.unusedVariables false
set_option linter.unusedSimpArgs false
namespace Go.Proofs.YtdadoignenffgaaGreatDoor
variable{tt:Tb}
set_option maxHeartbeats 16000000
set_option maxRecDepth 100000
open Go.RowKit
theorem Nv{p q:Int}(h:o9 (p,q)=true):CM (p,q)=decide (p≠0):=by
 have hb:=aQ h;unfold CM;by_cases hp:p=0
 ·subst hp;have hg:gI 0 q=1:=by
   simp only[o9,xf,sw]at h;exact h.2.2
  have hq:q=1:=by
   unfold gI at hg;have:Int.gcd 0 q=q.natAbs:=by simp[Int.gcd]
   rw[this]at hg;simp only at hb;omega
  subst hq;simp
 ·rw[z' hp,z'];intro e;exact hp (Jr Prod.fst e)
theorem fT.more{S:Nat}{a:j6}{na ca:Nat}{b:j6}{nb cb:Nat}{c:j6}{nc cc:Nat}{u v w:World}{o:Option (Tb×Nat)}(hx:Ext u v)(h:fT S a na ca b nb cb c nc cc v w o):fT S a na ca b nb cb c nc cc u w o:=⟨(Mod.of hx).trans h.1,h.2⟩
theorem vU{N:Nat}{s0:Tb×Nat}{k:Nat}{J:Tb}{G I:Nat}(h':bv N s0 (k+1)=some (J,I))(h:bv N s0 k=some (tt,G))(hl:G<=1000):I<=1000:=by
 rw[fg,h,G3]at h';unfold ie at h'
 split at h'
 ·cases h';exact hl
 ·split at h'
  ·cases h';exact hl
  ·split at h'
   ·cases h'
   ·next f e =>
    rw[U']at h';obtain⟨x,_,hx⟩:=h';simp only[aaG]at hx;simp only at e;omega
theorem vV{n m:Nat}{T0:Nat->Nat->Rat}{N:Nat}{s0:Tb×Nat}{k:Nat}{I:Tb}{J K:Nat}(G:Ak n m T0 tt)(h:bv N s0 k=some (tt,J))(h':bv N s0 (k+1)=some (I,K)):Ak n m T0 I:=by
 rw[fg,h,G3]at h';unfold ie at h'
 split at h'
 ·cases h';exact G
 ·split at h'
  ·cases h';exact G
  ·split at h'
   ·cases h'
   ·rw[U']at h';obtain⟨x,hx,he⟩:=h';simp only[aaG]at he;obtain⟨rfl,_⟩:=he;exact fK G hx
section
variable{w:World}{S:Nat}{a:j6}{na ca:Nat}{b:j6}{nb cb:Nat}{c:j6}{nc cc:Nat}{ra:j6}{rc:Nat}{ba:j6}{bc:Nat}{vs:List Value}{t:Tb}{n:Nat}{N m:Nat}{T0:Nat->Nat->Rat}
theorem fT.some{w w':World}{rn bn:Nat}{tt:Tb}{G:Nat}(hm:Mod S w w')(h:bS w' S a na ca b nb cb c nc cc ra rn rc ba bn bc vs tt G false)(hn:G<=1000):fT S a na ca b nb cb c nc cc w w' ((some (tt,1000-G)).map fun x=>(x.1,1000-x.2)) :=
 ⟨hm,ra,rn,rc,ba,bn,bc,vs,by show bS _ _ _ _ _ _ _ _ _ _ _ _ _ _ _ _ _ _ _ (1000-(1000-G)) _;rw[show 1000-(1000-G)=G by omega];exact h⟩
structure Lg(w wr:World)(S:Nat)(a:j6)(na ca:Nat)(b:j6)(nb cb:Nat)(c:j6)(nc cc:Nat)(N m:Nat)(T0:Nat->Nat->Rat)(s0:Tb×Nat)(k:Nat)(nn:Nat)(f:Bool)(tt:Tb)(ra:j6)(rn rc:Nat)(ba:j6)(bn bc:Nat)(vs:List Value):Prop where
 mod:Mod S w wr
 st:bS wr S a na ca b nb cb c nc cc ra rn rc ba bn bc vs tt nn f
 go:f=false->bv N s0 k=some (tt,1000-nn)/\nn<=1000/\Ak N m T0 tt/\rn=m/\bn=m
 no:f=true->bv N s0 k=none
theorem yN(h:bS w S a na ca b nb cb c nc cc ra m rc ba m bc vs t n false)(hT:Ak N m T0 t)(hN:N<=1000)(hm:m<=1000)(hn:n<=1000):
 Calls Tryz.prog 169 #[.pointer (some ⟨S,0,none⟩)] w fun e w'=>e=.returned (.tuple #[])/\fT S a na ca b nb cb c nc cc w w' ((bv N (t,1000-n) m).map fun x=>(x.1,1000-x.2)):=by
 have H0:=ae (show Lg w w S a na ca b nb cb c nc cc N m T0 (t,1000-n) 0 n false t ra m rc ba m bc vs from⟨Mod.refl _ _,h,fun _=>⟨rfl,hn,hT,rfl,rfl⟩,fun e=>by cases e⟩);have hlt:=mr h.box;clear h hT;go_enter Tryz.func169,Tryz.ntmps169
 go_wp2_with fail
 go_loopg [2] m (fun gk ii wr=>∃(k nn:Nat) (f:Bool) (tt:Tb) (ra:j6) (rn rc:Nat) (ba:j6) (bn bc:Nat) (vs:List Value),b7 (gk+k=m)/\ii=.int .i64 (k:Int)/\b7 (Lg w wr S a na ca b nb cb c nc cc N m T0 (t,1000-n) k nn f tt ra rn rc ba bn bc vs))
 case atStart=>exact⟨0,n,false,t,_,_,_,_,_,_,_,ae e7,rfl,H0⟩
 case round =>
  obtain⟨g1,o7⟩:=b9 gk;subst o7;obtain⟨G,o5⟩:=b9 wr;subst o5;obtain⟨k,nn,f,tt,ra,rn,rc,ba,bn,bc,vs,HK,rfl,HH⟩:=hrel;clear H0;obtain⟨l0,l1,l2,c0,c1,c2,c3,c4,cf⟩:=HH.o.st.cells;have YM:=mr HH.o.st.box;have DF:=HH.o.mod.size;have Cr:=HK.o;cases f
  ·obtain⟨hd,B1,K,CP,Hc⟩:=HH.o.go rfl;subst CP;subst Hc;have HD:=ae hd;have HT:=ae K;have Ea:=ae K.r7;rw[Ea.o]at c2;have AX:=HH.o.st.tb.CW.rows.l8;have B9:=HH.o.st.tb.CW.rows.l9;have AS:=HH.o.st.tb.CW.basis.l8;have AD:=HH.o.st.tb.CW.basis.l9;clear hd K;by_cases Ah:k<bn
   ·obtain⟨eb,zl,DT,AV⟩:=HH.o.st.tb.CW.basis.at Ah;subst DT;obtain⟨bb,Bg⟩:=b9 (tt.basis[k]?.getD 0);rw[<-Bg]at AV;have DC:=ae Bg;have Fu:(0:Int)<=(k:Int):=by omega
    have BR:(k:Int)<(bn:Int):=by omega
    clear Bg
    go_upto_block 1 with fail
    go_cut [2] (fun s2 wx=>s2=.int .i64 (k:Int)/\fT S a na ca b nb cb c nc cc G wx ((bv N (t,1000-n) (k+1)).map fun x=>(x.1,1000-x.2)))
    case first =>
     go_upto_region 3 with fail;have k7:Ext G G.drew:=Ext.drew G;have k8:=ae (fun(w':World) (h:Ext G w')=>(⟨h.j9 c1,h.j9 c2,h.j9 AV,h⟩:w'.cell? ⟨S,4,none⟩=some (.slice (some ⟨eb,zl,none⟩) bn bc)/\w'.cell? ⟨S,5,none⟩=some (.int .i64 (N:Int))/\w'.cell? ⟨eb,zl+k,none⟩=some (.int .i64 bb)/\Ext G w'));refine rN (S:=(fun w'=>w'.cell? ⟨S,4,none⟩=some (.slice (some ⟨eb,zl,none⟩) bn bc)/\w'.cell? ⟨S,5,none⟩=some (.int .i64 (N:Int))/\w'.cell? ⟨eb,zl+k,none⟩=some (.int .i64 bb)/\Ext G w')) e9 ?_ (fun l7=>?_)
     ·exact k8.o _ k7
     refine tk 0 ?_;refine tk 1 ?_;refine tk 2 ?_;refine tk 3 ?_;refine tk 4 ?_;refine tk 5 ?_;refine tk 6 ?_;refine tk 7 ?_;refine tk 8 ?_;refine tk 9 ?_;refine tk 10 ?_;refine tk 11 ?_;refine tk 12 ?_;refine tk 13 ?_;refine Gh e9 ?_ _;obtain⟨w3,Gx⟩:=b9 G.drew;have X3:=ae (show Ext G w3 by rw[Gx];exact k7);rw[<-Gx];have Cz:=ae (HH.o.st.ext X3.o);have Fm:=ae (HH.o.mod.trans (Mod.of X3.o));clear k7 l0 l1 l2 c0 c1 c2 c3 c4 cf AV Gx k8 l7;obtain⟨l0,l1,l2,c0,c1,c2,c3,c4,cf⟩:=Cz.o.cells;rw[Ea.o]at c2;by_cases LD:bb<(N:Int)
     ·have HD1:=ae (ov HD.o (by rw[<-DC.o];exact LD));go_wp2_with fail;go_meet;refine⟨rfl,?_⟩;rw[HD1.o];exact fT.some (Mod.of X3.o) Cz.o B1
     ·have IK:=ae (show(N:Int)<=tt.basis[k]?.getD 0 by rw[<-DC.o];omega);have Wp:=HT.o.row k Ah;have Br:=ae Wp.1;have HRV:=ae Wp.2;clear Wp;go_wp2_with fail
      go_loopg [3] N (fun gk jj wr=>∃j:Nat,b7 (gk+j=N)/\jj=.int .i64 (j:Int)/\b7 (((tt.row k).take j).all (fun c=>!CM c)=true)/\w3=wr)
      case atStart=>exact⟨0,ae e7,rfl,ae rfl,rfl⟩
      case round =>
       obtain⟨j,HJ,rfl,HA,rfl⟩:=hrel;by_cases Ca:j<N
       ·obtain⟨MH,Dk,ya,yn,yc,Kg,AU,o8⟩:=Cz.o.tb.CW.rows.at Ah;subst Kg;have Em:yn=N+bn+1:=by rw[<-o8.hlen];exact Br.o
        have An:=o8.l8;have EU:=o8.l9;obtain⟨yb,zE,p,q,ET,zR,Jm,Jl⟩:=o8.at (show j<yn by omega);subst ET;have Wx:(j:Int)<(yn:Int):=by omega
        have EV:=HRV.o j e7;rw[show(tt.row k)[j]?.getD (0,0)=(p,q)from zR]at EV;have Ay:=ae (show(tt.row k)[j]?.getD (0,0)=(p,q)from zR);have Tt:=ae (Nv EV);clear zR o8 Em EV;by_cases F7:p=0
        ·have HA2:=ae (qJ (by rw[Br.o];omega) Ay.o HA.o (by rw[Tt.o];simp[F7]));subst F7;go_wp2_with fail
         go_roundg (gk-1)
         case measure=>have:=HJ.o;omega
         case rel=>exact⟨j+1,ae (j1 HJ.o),by go_num,HA2,rfl⟩
        ·have FN:(p != 0)=true:=by simpa using F7
         have Fa:=ae (ot HD.o (j1 IK.o) Ca (by rw[Br.o];omega) HA.o (by rw[Ay.o,Tt.o];simpa using F7) e7);have FD:=ae (rl Cz.o HT.o hN hm B1 Ah Ca);have Xc:=ae (show 1000-(1000-nn)=nn by omega);clear F7;go_wp2_with fail;refine FD.o.mono ?_;rintro e w6 ⟨rfl,hl6⟩;go_wp2_with fail;go_meet;exact⟨rfl,by rw[Fa.o,Xc.o];exact fT.more X3.o hl6⟩
       ·have Eo:N=j:=by have:=HJ.o;omega
        have Fa:=ae (ou HD.o (j1 IK.o) (by rw[Eo];exact HA.o));clear Eo;go_wp2_with fail;go_meet;refine⟨rfl,?_⟩;rw[Fa.o];exact fT.some (Mod.of X3.o) Cz.o B1
    obtain⟨rfl,UB,Kd,Kc,J,Q,KA,O,I,Z⟩:=hcut;have HMC:=ae (HH.o.mod.trans UB);clear UB l0 l1 l2 c0 c1 c2 c3 c4 cf;cases hd:bv N (t,1000-n) (k+1)with
    | none =>
      rw[hd]at Z;obtain⟨t',n',Ru⟩:=Z;have U:=ae (show Lg w wc S a na ca b nb cb c nc cc N bn T0 (t,1000-n) (k+1) n' true t' Kd Kc J Q KA O I from⟨HMC.o,Ru,fun e=>(by cases e),fun _=>hd⟩);clear Ru hd;go_wp2_with fail
      go_roundg (g1-1)
      case measure=>omega
      case rel=>exact⟨k+1,n',true,t',_,_,_,_,_,_,_,ae e7,by go_num,U⟩
    | some st =>
      obtain⟨t',f'⟩:=st;rw[hd]at Z;have hf':f'<=1000:=by
       have hs:=vU hd HD.o e7;exact hs
      have hTi:=vV HT.o HD.o hd;have Uo:=bS.same (show bS wc S a na ca b nb cb c nc cc Kd Kc J Q KA O I t' (1000-f') false from Z) hTi;have U:=ae (show Lg w wc S a na ca b nb cb c nc cc N bn T0 (t,1000-n) (k+1) (1000-f') false t' Kd Kc J Q KA O I from⟨HMC.o,Z,fun _=>⟨by rw[hd];congr 2;omega,by omega,hTi,Uo.1,Uo.2⟩,fun e=>by cases e⟩);clear Z hd hTi Uo;go_wp2_with fail
      go_roundg (g1-1)
      case measure=>omega
      case rel=>exact⟨k+1,1000-f',false,t',_,_,_,_,_,_,_,ae e7,by go_num,U⟩
   ·have zQ:bn=k:=by omega
    have HDE:=ae (show bv N (t,1000-n) bn=some (tt,1000-nn)by rw[zQ];exact HD.o);clear zQ;go_wp2_with fail;refine ab8 (aaF rfl _ _ _) rfl ⟨rfl,?_⟩;rw[HDE.o];exact fT.some HH.o.mod HH.o.st B1
  ·have HDE:=ae (show bv N (t,1000-n) m=none from kT (HH.o.no rfl) e7);by_cases Ah:k<rn
   ·go_wp2_with fail;refine ab8 (aaF rfl _ _ _) rfl ⟨rfl,?_⟩;rw[HDE.o];exact⟨HH.o.mod,_,_,_,_,_,_,_,_,_,HH.o.st⟩
   ·go_wp2_with fail;refine ab8 (aaF rfl _ _ _) rfl ⟨rfl,?_⟩;rw[HDE.o];exact⟨HH.o.mod,_,_,_,_,_,_,_,_,_,HH.o.st⟩
end
