import Derived.Test.YtdadoignenffgaaGreatDoorEbAllG11
import Derived.Test.YtdadoignenffgaaGreatDoorEbAllG7
import Derived.Test.YtdadoignenffgaaGreatDoorEbAllG8
import Derived.Test.YtdadoignenffgaaGreatDoorEbAllG9
set_option linter.unusedVariables false
set_option linter.unusedSimpArgs false
namespace Go.Proofs.YtdadoignenffgaaGreatDoor
variable{cost cs:j4}{t:Tb}{n:Nat}{w:World}{a:j6}{V:j7}
set_option maxHeartbeats 16000000
set_option maxRecDepth 100000
open Go.RowKit
theorem oQ(f:Nat)(h:cJ t cost=none):aY cost f t=none:=by unfold aY;rw[h]
theorem mI(f:Nat)(h:cJ t cost=some cs)(he:bz cs t.r7<0):aY cost f t=some ⟨t,f,cs,-1⟩:=by unfold aY;rw[h];simp only[he,abk]
theorem mJ(f:Nat)(h:cJ t cost=some cs)(he:¬bz cs t.r7<0)(hl:cW t (bz cs t.r7)<0):aY cost f t=some ⟨t,f,cs,bz cs t.r7⟩:=by
 unfold aY;rw[h];simp only[he,hl,abk,aeZ]
theorem mK(hn:n<=1000)(h:cJ t cost=some cs)(he:¬bz cs t.r7<0)(hl:¬cW t (bz cs t.r7)<0):
 aY cost (1000-n) t=(B7 t n (cW t (bz cs t.r7)) (bz cs t.r7)).bind fun s=>aY cost (1000-s.2) s.1:=by
 unfold B7;by_cases G:n=1000
 ·subst G;unfold aY;rw[h];simp only[he,hl,aeZ,abk];rfl
 ·rw[hD G];obtain⟨f,hf⟩:∃f,1000-n=f+1:=⟨999-n,by omega⟩;rw[hf];have e:1000-(n+1)=f:=by omega
  conv=>lhs;unfold aY
  rw[h];simp only[he,hl,aeZ];cases bJ t (cW t (bz cs t.r7)) (bz cs t.r7)with
  | none=>rfl
  | some t'=>simp only[Tc,G3,e]
def RunP(S:Nat)(w:World)(e:Ending)(w':World)(o:Option Ph):Prop :=
 Mod S w w'/\∃ra rn rc ba bn bc vs,match o with
  | some p=>∃v,e=.returned (.tuple #[v,.int .i64 p.zp])/\o0 w' w.heap.size v p.costs/\dK w' S ra rn rc ba bn bc vs p.t (1000-p.left) false
  | none=>∃v zp t n,e=.returned (.tuple #[v,.int .i64 zp])/\dK w' S ra rn rc ba bn bc vs t n true
structure Head(w wr:World)(S:Nat)(N m:Nat)(T0:Nat->Nat->Rat)(cost:j4)(o:Option Ph)(gk:Nat)(nn:Nat)(f:Bool)(tt:Tb)(ra:j6)(rn rc:Nat)(ba:j6)(bn bc:Nat)(vs:List Value):Prop where
 meas:gk=if f=true then 0 else 2*(1000-nn)+1
 mod:Mod S w wr
 st:dK wr S ra rn rc ba bn bc vs tt nn f
 go:f=false->Ak N m T0 tt/\nn<=1000/\aY cost (1000-nn) tt=o
 no:f=true->o=none
section
variable{w:World}{S:Nat}{ra:j6}{rn rc:Nat}{ba:j6}{bn bc:Nat}{vs:List Value}{t:Tb}{n:Nat}
theorem SN(h:dK w S ra rn rc ba bn bc vs t n false){N m:Nat}{T0:Nat->Nat->Rat}(J:Ak N m T0 t)(hN:N<=1000)(hm:m<=1000)(hn:n<=1000){ka:j6}{kn kc b0:Nat}{cost:j4}(hc:o0 w b0 (.slice ka kn kc) cost):
 Calls Tryz.prog 191 #[.pointer (some ⟨S,0,none⟩),.slice ka kn kc] w fun e w'=>RunP S w e w' (aY cost (1000-n) t):=by
 obtain⟨o,ho⟩:=b9 (aY cost (1000-n) t);rw[<-ho];have H0:=ae (show Head w w S N m T0 cost o (2*(1000-n)+1) n false t ra rn rc ba bn bc vs from⟨by simp,Mod.refl _ _,h,fun _=>⟨J,hn,ho.symm⟩,fun e=>by cases e⟩);have HC:=ae hc;have Au:=ae h.box;have hlt:=mr h.box;clear h J ho hc;go_enter Tryz.func191,Tryz.ntmps191
 go_wp2_with fail
 go_loopg [8] (2*(1000-n)+1) (fun gk s8 wr=>∃(G:Nat) (f:Bool) (I:Tb) (ra:j6) (rn rc:Nat) (ba:j6) (bn bc:Nat) (vs:List Value),b7 (Head w wr S N m T0 cost o gk G f I ra rn rc ba bn bc vs))
 case atStart=>exact⟨n,false,t,_,_,_,_,_,_,_,H0⟩
 case round =>
  obtain⟨g1,o7⟩:=b9 gk;subst o7;obtain⟨o6,o5⟩:=b9 wr;subst o5;obtain⟨G,f,I,ra,rn,rc,ba,bn,bc,vs,HH⟩:=hrel;clear H0;obtain⟨c0,c1,c2,c3,c4,K⟩:=HH.o.st.cells;have YM:=mr HH.o.st.box;have DF:=HH.o.mod.size;cases f
  ·obtain⟨J,B1,Z⟩:=HH.o.go rfl;have HT:=ae J;have Si:=ae Z;have Cu:=J.r7;have QH:=ae (xL HH.o.st.tb.CW (by rw[<-HH.o.st.tb.CW.rows.hlen,J.len];omega) ((HC.o.mod HH.o.mod Au.o).zj));rw[Cu]at c2 QH;have Ea:=ae Cu;clear J Z Cu;cases hcs:cJ I cost with
   | none =>
     have HO:=ae (show o=none by rw[<-Si.o];exact oQ _ hcs);rw[hcs]at QH;go_wp2_with fail;refine QH.o.mono ?_;simp only[aaa,acZ];rintro e w2 ⟨⟨v2,rfl,D7⟩,hx⟩;have HS:=ae (HH.o.st.ext hx);have HM:=ae (HH.o.mod.trans (Mod.of hx));clear D7 hx c0 c1 c2 c3 c4 K hcs;obtain⟨c0,c1,c2,c3,c4,K⟩:=HS.o.cells;go_wp2_with fail
     go_ret2
     refine⟨HM.o.trans (Mod.set _ _ _ _),?_⟩;rw[HO.o];exact⟨_,_,_,_,_,_,_,_,_,_,_,rfl,HS.o.fail⟩
   | some cs =>
     rw[hcs]at QH;have Jd:=ae hcs;go_wp2_with fail;refine QH.o.mono ?_;simp only[l',aa7];rintro e w2 ⟨⟨v2,rfl,D7⟩,hx⟩;obtain⟨a2,n2,p2,rfl,Gu⟩:=D7.var;have HS:=ae (HH.o.st.ext hx);have HM:=ae (HH.o.mod.trans (Mod.of hx));have As:=ae (show o0 w2 w.heap.size (.slice a2 n2 p2) cs from o0.mono D7 DF);clear D7 hx c0 c1 c2 c3 c4 K hcs;obtain⟨c0,c1,c2,c3,c4,K⟩:=HS.o.cells;rw[Ea.o]at c2;obtain⟨zp,Es⟩:=b9 (bz cs (N:Int));have CV:=ae Es;clear Es;go_upto_region 5 with fail;have k7:Ext w2 w2.drew:=Ext.drew w2;have zw:=k7;have k8:=ae (fun(w':World) (h:Ext w2 w')=>(⟨h.j9 c0,h.j9 c1,h.j9 c2,h⟩:w'.cell? ⟨S,0,none⟩=some (.slice ra rn rc)/\w'.cell? ⟨S,1,none⟩=some (.slice ba bn bc)/\w'.cell? ⟨S,2,none⟩=some (.int .i64 (N:Int))/\Ext w2 w'))
     go_region_held3 (fun w'=>w'.cell? ⟨S,0,none⟩=some (.slice ra rn rc)/\w'.cell? ⟨S,1,none⟩=some (.slice ba bn bc)/\w'.cell? ⟨S,2,none⟩=some (.int .i64 (N:Int))/\Ext w2 w')
      (with_reducible exact k8.o _ k7)
      (first
        | (go_at_call 232
           (with_reducible refine(ng (ra:=ra) (rn:=rn) (rc:=rc) (ba:=ba) (bn:=bn) (bc:=bc) (x:=(N:Int)) (As.o.zj.ext (by first|with_reducible exact k7|with_reducible exact zw|with_reducible exact k7.trans (Ext.alloc _ _))) N e7).mono ?_)
           rw[<-CV.o];rintro e w3 ⟨rfl,y8⟩;have k7:Ext w2 w3:=k7.trans y8
           have F5:=k7.size)
        | fail)
     clear k8 zw;have Cz:=ae (HS.o.ext k7);have Fm:=ae (HM.o.trans (Mod.of k7));have zi:=ae (As.o.ext k7);clear k7 c0 c1 c2 c3 c4 K;have Q:=ae (show bz cs I.r7=zp by rw[Ea.o,CV.o]);by_cases AB:zp<0
     ·have HO:=ae (show o=some ⟨I,1000-G,cs,-1⟩by rw[<-Si.o];exact mI _ Jd.o (by rw[Q.o];exact AB));go_wp2_with fail
      go_ret2
      refine⟨Fm.o,?_⟩;rw[HO.o];exact⟨_,_,_,_,_,_,_,_,rfl,zi.o,by rw[show 1000-(1000-G)=G by omega];exact Cz.o⟩
     ·obtain⟨c0,c1,c2,c3,c4,K⟩:=Cz.o.cells;rw[Ea.o]at c2;have KO:=ae AB;have I9:=ae (sy Cz.o.tb.CW (by rw[<-Cz.o.tb.CW.rows.hlen,HT.o.len];omega) zp);rw[Ea.o]at I9;obtain⟨row,o8⟩:=b9 (cW I zp);have CZ:=ae (show cW I (bz cs I.r7)=row by rw[Q.o,o8]);rw[<-o8]at I9;clear o8;go_wp2_with fail;refine I9.o.mono ?_;rintro e w4 ⟨rfl,hx⟩;have LU:=ae (Cz.o.ext hx);have Fl:=ae (Fm.o.trans (Mod.of hx));have Ar:=ae (zi.o.ext hx);clear hx c0 c1 c2 c3 c4 K;by_cases A':row<0
      ·have HO:=ae (show o=some ⟨I,1000-G,cs,zp⟩by
        rw[<-Si.o,mJ _ Jd.o (by rw[Q.o];have:=KO.o;omega) (by rw[CZ.o];exact A'),Q.o])
       go_wp2_with fail
       go_ret2
       refine⟨Fl.o,?_⟩;rw[HO.o];exact⟨_,_,_,_,_,_,_,_,rfl,Ar.o,by rw[show 1000-(1000-G)=G by omega];exact LU.o⟩
      ·have Hn:=ae (show o=(B7 I G row zp).bind fun s=>aY cost (1000-s.2) s.1 by
        rw[<-Si.o,mK B1 Jd.o (by rw[Q.o];have:=KO.o;omega) (by rw[CZ.o];omega),CZ.o,Q.o])
       have FD:=ae (uZ LU.o HT.o hN hm B1 row zp);have HME:=ae (show g1=2*(1000-G)+1 from HH.o.meas);go_wp2_with fail;refine FD.o.mono ?_;rintro e w5 ⟨rfl,Fg,SH,TY,SG,Tm,Vo,Tl,QM,U⟩;cases DX:B7 I G row zp with
       | none =>
         rw[DX]at U;obtain⟨t5,n5,EK⟩:=U;have HO:=ae (show o=none by rw[Hn.o,DX];rfl);have O:=ae (show Head w w5 S N m T0 cost o 0 n5 true t5 SH TY SG Tm Vo Tl QM from⟨rfl,Fl.o.trans Fg,EK,fun e=>(by cases e),fun _=>HO.o⟩);clear EK DX Fg;go_wp2_with fail
         go_roundg 0
         case measure=>have:=HME.o;omega
         case rel=>exact⟨n5,true,t5,_,_,_,_,_,_,_,O⟩
       | some st =>
         obtain⟨t5,n5⟩:=st;rw[DX]at U;have C6:n5=G+1/\G<1000/\bJ I row zp=some t5:=by
          unfold B7 at DX
          split at DX
          ·cases DX
          ·rw[U']at DX;obtain⟨t6,h6,h7⟩:=DX;simp only[aaG]at h7;obtain⟨rfl,rfl⟩:=h7;exact⟨rfl,by omega,h6⟩
         obtain⟨rfl,hlt5,Lv⟩:=C6;have HO:=ae (show aY cost (1000-(G+1)) t5=o by rw[Hn.o,DX];rfl);have O:=ae (show Head w w5 S N m T0 cost o (2*(1000-(G+1))+1) (G+1) false t5 SH TY SG Tm Vo Tl QM from⟨rfl,Fl.o.trans Fg,U,fun _=>⟨fK HT.o Lv,by omega,HO.o⟩,fun e=>(by cases e)⟩);clear U DX Fg Lv;go_wp2_with fail
         go_roundg (2*(1000-(G+1))+1)
         case measure=>have:=HME.o;omega
         case rel=>exact⟨G+1,false,t5,_,_,_,_,_,_,_,O⟩
  ·have HO:=ae (HH.o.no rfl);go_wp2_with fail
   go_ret2
   refine⟨HH.o.mod,?_⟩;rw[HO.o];exact⟨_,_,_,_,_,_,_,_,_,_,_,rfl,HH.o.st⟩
end
theorem qw{cap:Nat}{front:j4}(h:Rats w a n cap front)(rest:Int)(m:Nat)(hn:n<=100000)(hm:m<=100000):
 Calls Tryz.prog 192 #[.slice a n cap,.int .i64 rest,.int .i64 (m:Int)] w fun e w'=>(∃v,e=.returned v/\o0 w' w.heap.size v (front++List.replicate m (rest,1)))/\Ext w w':=by
 have HL:=ae h.hlen;have Ba:=h.l8;have CY:=h.l9;have HI:=ae (h.ext (Ext.alloc w (.cells #[] 62)));have HO:=ae (o0.made w w.heap.size (ao _));clear h;go_enter Tryz.func192,Tryz.ntmps192
 go_wp2_with (first
  | (at_builtin;refine aM rfl _ _ rfl w.heap.size (.slice (some ⟨w.heap.size,0,none⟩) 0 0) [] rfl HO.o a n cap front rfl HI.o (by simp;omega) e8 ?_;intro v5 w5 ho hg k9;have X5:=ae (ak (Ext.alloc w (.cells #[] 62)) hg (fun j hj=>aas (Og (show some w.heap.size=some j from hj))));obtain⟨a5,O,K,rfl,CF⟩:=ho.var;have zW:=ae ho;clear ho hg k9))
 go_loopg [7,12] m (fun gk oo ii wr=>∃(k:Nat) (a1:j6) (G p1:Nat),b7 (gk+k=m)/\ii=.int .i64 (k:Int)/\oo=.slice a1 G p1/\b7 (o0 wr w.heap.size (.slice a1 G p1) (front++List.replicate k (rest,1)))/\b7 (Ext w wr))
 case atStart=>exact⟨0,_,_,_,ae e7,rfl,rfl,ae (by have:=zW.o;simpa using this),X5⟩
 case round =>
  obtain⟨g1,Q⟩:=b9 gk;subst Q;obtain⟨o6,U⟩:=b9 wr;subst U;obtain⟨k,a1,G,p1,I,rfl,rfl,zv,HX⟩:=hrel;by_cases hlt:k<m
  ·have AN:=ae (show(front++List.replicate k (rest,(1:Int))).length=n+k by simp[HL.o]);go_wp2_with fail;refine(cX rest _).mono ?_;rintro e w3 ⟨rfl,hx⟩;have X3:=ae (HX.o.trans hx);have J:=ae (zv.o.ext hx);have F6:=X3.o.size;clear hx
   go_wp2_with (first
    | (at_builtin;refine aM rfl _ _ rfl w.heap.size (.slice a1 G p1) _ rfl (J.o.ext (Ext.alloc _ _)) _ 1 _ [(rest,1)] rfl (Rats.one' _ _ _ _ _ e8) (by rw[AN.o];omega) (by simp;omega) ?_;intro v5 w5 ho hg k9;have X5:=ae (ak (X3.o.trans (Ext.alloc _ _)) hg (fun j hj=>(J.o.lt j hj).1));obtain⟨a5,O,K,rfl,CF⟩:=ho.var;have zW:=ae ho;clear ho hg k9))
   go_roundg (g1-1)
   case measure=>have:=I.o;omega
   case rel=>exact⟨k+1,a5,O,K,ae (j1 I.o),by go_num,rfl,ae (by have:=zW.o;rw[N7,<-aaA]at this;exact this),X5⟩
  ·have Z:m=k:=by have:=I.o;omega
   subst Z;go_wp2_with fail;go_ret;exact⟨⟨_,rfl,zv.o⟩,HX.o⟩
theorem ji(t:Tb):∀k,(By t k).length=t.r7.toNat+t.rows.length
 | 0=>by simp[By]
 | k+1=>by simp only[By,H4];exact ji t k
theorem sD{ra:j6}{rn rc:Nat}{ba:j6}{bn bc:Nat}(h:Hg w ra rn rc ba bn bc t)(CP:rn<=100000)(zO:Cl t=true):
 Calls Tryz.prog 195 #[Gw ra rn rc ba bn bc t.r7] w fun e w'=>(∃v,e=.returned v/\o0 w' w.heap.size v (A7 t))/\Ext w w':=by
 have y9:=Ext.alloc w (cj ra rn rc ba bn bc t.r7);have y7:=ae y9;have H:=ae (h.ext y9);have HF:=ae (iY H.o e7);rw[zO]at HF;obtain⟨m,K,hm,GC,Lt,RQ⟩:=gO h zO;subst GC;have AX:=h.rows.l8;have B9:=h.rows.l9;have A1:=ae h.rows.hlen;have ZV:=ae (show A7 t=By t bn by unfold A7;rw[hI zO,h.rows.hlen]);have J5:=ae (show By t 0=List.replicate (m+bn) (0,1)by simp only[By];rw[K,h.rows.hlen];rfl);have CS:=ae (fun k=>show(By t k).length=m+bn by rw[ji,K,h.rows.hlen];simp);have Br:=ae Lt;have J':=ae RQ;have FI:=ae K;rw[K]at HF y9 y7 H;rw[K];have HO:=ae (fun(W:World)=>o0.made W W.heap.size (ao _));clear h y9 Lt RQ zO K;go_enter Tryz.func195,Tryz.ntmps195
 go_wp2_with fail;refine HF.o.mono ?_;rintro e w1 ⟨rfl,hx⟩;have X1:=ae hx;have H1:=ae (H.o.ext hx);have c0:w1.cell? ⟨w.heap.size,0,none⟩=some (.slice ra bn rc):=hx.j9 e8;have c2:w1.cell? ⟨w.heap.size,2,none⟩=some (.int .i64 (m:Int)):=hx.j9 e8;have DF:w.heap.size+1<=w1.heap.size:=by have:=hx.size;simpa using this
 have Yl:w.heap.size<w1.heap.size:=DF;have zv:=ae (HO.o w1);clear hx;go_wp2_with fail
 go_loopg [3,16] (m+bn) (fun gk oo ii wr=>∃(k:Nat) (a1:j6) (I p1:Nat),b7 (gk+k=m+bn)/\ii=.int .i64 (k:Int)/\oo=.slice a1 I p1/\b7 (o0 wr w1.heap.size (.slice a1 I p1) (List.replicate k (0,1)))/\b7 (Ext w1 wr))
 case atStart=>exact⟨0,_,_,_,ae e7,rfl,rfl,zv,ae (Ext.alloc _ _)⟩
 case round =>
  obtain⟨g1,o7⟩:=b9 gk;subst o7;obtain⟨o6,o5⟩:=b9 wr;subst o5;obtain⟨k,a1,I,p1,Z,rfl,rfl,zv,HX⟩:=hrel;clear c0 c2;by_cases hlt:k<m+bn
  ·have AN:=ae (show(List.replicate k ((0:Int),(1:Int))).length=k by simp);have Rz:(k:Int)<(m:Int)+(bn:Int):=by omega
   go_wp2_with fail;refine(cX 0 _).mono ?_;rintro e w3 ⟨rfl,hx⟩;have X3:=ae (HX.o.trans hx);have zi:=ae (zv.o.ext hx);have F6:=X3.o.size;clear hx
   go_wp2_with (first
    | (at_builtin;refine aM rfl _ _ rfl w1.heap.size (.slice a1 I p1) _ rfl (zi.o.ext (Ext.alloc _ _)) _ 1 _ [(0,1)] rfl (Rats.one' _ _ _ _ _ e8) (by rw[AN.o];omega) (by simp;omega) ?_;intro v5 w5 ho hg k9;have X5:=ae (ak (X3.o.trans (Ext.alloc _ _)) hg (fun j hj=>(zi.o.lt j hj).1));obtain⟨a5,n5,p5,rfl,CF⟩:=ho.var;have zW:=ae ho;clear ho hg k9))
   go_roundg (g1-1)
   case measure=>have:=Z.o;omega
   case rel=>exact⟨k+1,a5,n5,p5,ae (j1 Z.o),by go_num,rfl,ae (by have:=zW.o;rw[<-aaA]at this;exact this),X5⟩
  ·have Cr:k=m+bn:=by have:=Z.o;omega
   have Rz:¬(k:Int)<(m:Int)+(bn:Int):=by omega
   have HKM:=ae Cr;have As:=ae (show o0 o6 w1.heap.size (.slice a1 I p1) (By t 0)by rw[J5.o,<-Cr];exact zv.o);have c0:o6.cell? ⟨w.heap.size,0,none⟩=some (.slice ra bn rc):=(X1.o.trans HX.o).j9 e8;clear Cr;go_wp2_with fail
   go_loopg [26] bn (fun gk ii wr=>∃(k:Nat),b7 (gk+k=bn)/\ii=.int .i64 (k:Int)/\b7 (o0 wr w1.heap.size (.slice a1 I p1) (By t k))/\b7 (Ext w1 wr))
   case atStart=>exact⟨0,ae e7,rfl,As,HX⟩
   case round =>
    obtain⟨g2,Am⟩:=b9 gk;subst Am;obtain⟨J,zx⟩:=b9 wr;subst zx;obtain⟨j,HJ,rfl,Q,O⟩:=hrel;clear c0;by_cases Ca:j<bn
    ·obtain⟨zb,zL,ya,U,yc,Dp,AU,o8⟩:=(H1.o.ext O.o).rows.at Ca;subst Dp;obtain⟨u,hu⟩:=b9 (m+bn);have Em:U=u+1:=by rw[<-o8.hlen,hu];exact Br.o j Ca
     have Qs:=ae Em;have An:=o8.l8;have EU:=o8.l9;have Wl:u<=200000:=by omega
     obtain⟨yb,zE,p,q,ET,zR,Jm,Jl⟩:=o8.at (show u<U by omega);subst ET;have Ay:=ae (show t.at j u=(p,q)from zR);obtain⟨b,hb,JE⟩:=J'.o j Ca;have HB:=ae hb;obtain⟨eb,zl,DT,AV⟩:=(H1.o.ext O.o).basis.at Ca;subst DT;rw[hb]at AV;have B1:I=u:=by have:=Q.o.zj.hlen;rw[CS.o]at this;omega
     subst B1;obtain⟨G,hG,Gf,H5,LH⟩:=Q.o.block (k:=b) e7;subst hG;obtain⟨G',K9,g1v,g2v,CD,Fv,Fh,DY⟩:=Q.o.zj.at (show b<I by omega);simp only[bA,mq,zz]at CD;obtain⟨rfl,rfl⟩:=CD;rw[Mf]at Fh DY;have c1:J.cell? ⟨w.heap.size,1,none⟩=some (.slice (some ⟨eb,zl,none⟩) bn bc):=(X1.o.trans O.o).j9 e8;have Qf:IntKind.i64.wrap ((U:Int)-1)=(I:Int):=by have:=Qs.o;rw[cn];omega
     have GY:(I:Int)<(U:Int):=by have:=Qs.o;omega
     have Mk:(0:Int)<=(I:Int):=by omega
     have Cn:(0:Int)<=(b:Int):=by omega
     have AS:(b:Int)<(I:Int):=by omega
     have hj0:(0:Int)<=(j:Int):=by omega
     have hj1:(j:Int)<(bn:Int):=by omega
     have HU:=ae hu;clear zR o8 Em hb Fv hu;go_upto_region 11 with fail
     go_still_tail 13,e9
     have zW:=ae (show o0 ((J.drew.setCell ⟨G,b*2,none⟩ (.int .i64 p)).setCell ⟨G,b*2+1,none⟩ (.int .i64 q)) w1.heap.size (.slice (some ⟨G,0,none⟩) I p1) (By t (j+1))by
      have h1:=(Q.o.ext (Ext.drew J)).set (k:=b) (by rw[CS.o,<-HU.o];omega) p q;have h2:By t (j+1)=(By t j).set b (p,q):=by
       simp only[By];rw[HB.o,CI,FI.o,CI,A1.o,<-HU.o,Ay.o]
      rw[h2];exact h1)
     have D0:=ae (((O.o.trans (Ext.drew J)).setCell (p:=⟨G,b*2,none⟩) Gf (.int .i64 p)).setCell (p:=⟨G,b*2+1,none⟩) Gf (.int .i64 q));clear Qf;go_wp2_with fail
     go_roundg (g2-1)
     case measure=>have:=HJ.o;omega
     case rel=>exact⟨j+1,ae (j1 HJ.o),by go_num,zW,D0⟩
    ·have Ga:bn=j:=by have:=HJ.o;omega
     subst Ga;go_wp2_with fail;go_ret;exact⟨⟨_,rfl,by rw[ZV.o];exact Q.o.mono e7⟩,(y7.o.trans X1.o).trans O.o⟩
theorem oh{k:Nat}{v:Int}(hn:V.length=n)(h:k+1<n)(hv:V[k+1]?.getD 0=v):(bG V).take k++[(-v,1)]=(bG V).take (k+1):=by
 have h1:k+1<V.length:=by omega
 have h2:(bG V)[k]?=some (-v,1):=by
  unfold bG;rw[bk h1,l']at hv;rw[MD,aaS,Nat.add_comm 1 k,bk h1,hv];rfl
 have h3:k<(bG V).length:=(RI.1 h2).1;rw[Kn h3,(RI.1 h2).2]
theorem rE{p:Int}{cap:Nat}(h:Ints w a n cap V)(B1:1<=n)(hn:n<=1000)(O:∀x∈V,-500<=x/\x<=500):
 Calls Tryz.prog 127 #[pair p a n cap,.int .i64 1,.int .i64 ((n:Int)-1)] w fun e w'=>(∃v,e=.returned v/\o0 w' w.heap.size v (bG V))/\Ext w w':=by
 have HL:=ae h.hlen;have Ba:=h.l8;have CY:=h.l9;obtain⟨W,hW⟩:=b9 (w.alloc (.cells #[.int .i64 p,.slice a n cap] 32));have I:Ext w W:=by rw[hW];exact Ext.alloc _ _
 have I4:=ae I;have HI:=ae (h.ext I);have Eg:=ae O;have Au:=ae (show W.cell? ⟨w.heap.size,1,none⟩=some (.slice a n cap)by rw[hW];simp);have J:=I.size;have HO:=ae (o0.made W W.heap.size (ao _));have CV:=ae (show(bG V).length=n-1 by unfold bG;simp[h.hlen]);clear h O I;go_enter Tryz.func127,Tryz.ntmps127
 go_upto_region 1 with fail;rw[<-hW];clear hW;go_wp2_with fail
 go_loopg [7,8] (n-1) (fun gk oo ii wr=>∃(k:Nat) (a1:j6) (G p1:Nat),b7 (gk+k=n-1)/\ii=.int .i64 ((k+1:Nat):Int)/\oo=.slice a1 G p1/\b7 (o0 wr W.heap.size (.slice a1 G p1) ((bG V).take k))/\b7 (Ext W wr))
 case atStart=>exact⟨0,_,_,_,ae e7,rfl,rfl,HO,ae (Ext.alloc _ _)⟩
 case round =>
  obtain⟨g1,Z⟩:=b9 gk;subst Z;obtain⟨o6,o5⟩:=b9 wr;subst o5;obtain⟨k,a1,G,p1,Q,rfl,rfl,zv,HX⟩:=hrel;have hsz:=HX.o.size;have bx:=HX.o.j9 Au.o;by_cases hlt:k+1<n
  ·have hle:((k+1:Nat):Int)<=(n:Int)-1:=by omega
   obtain⟨eb,zl,DT,AV⟩:=(HI.o.ext HX.o).at hlt;subst DT;obtain⟨v,hv⟩:=b9 (V[k+1]?.getD 0);have A4:-500<=v/\v<=500:=by
    rw[hv,bk (by rw[HL.o];exact hlt),l'];exact Eg.o _ (vl _)
   rw[<-hv]at AV;have Bw:=ae (oh HL.o hlt hv.symm);have Kj:IntKind.i64.wrap (-v)=-v:=by rw[cn];omega
   have Fu:(0:Int)<=((k+1:Nat):Int):=by omega
   have BR:((k+1:Nat):Int)<(n:Int):=by omega
   have k7:IntKind.i64.wrap (((k+1:Nat):Int)+1)=((k+1+1:Nat):Int):=by rw[cn];omega
   have GH:=ae (show((bG V).take k).length=k by rw[FX,CV.o];omega);clear hv;go_wp2_with fail;refine(cX (-v) _).mono ?_;rintro e w3 ⟨rfl,hx⟩;have X3:=ae (HX.o.trans hx);have K:=ae (zv.o.ext hx);have F6:=X3.o.size;clear hx
   go_wp2_with (first
    | (at_builtin;refine aM rfl _ _ rfl W.heap.size (.slice a1 G p1) _ rfl (K.o.ext (Ext.alloc _ _)) _ 1 _ [(-v,1)] rfl (Rats.one' _ _ _ _ _ e8) (by rw[GH.o];omega) (by simp;omega) ?_;intro v5 w5 ho hg k9;have X5:=ae (ak (X3.o.trans (Ext.alloc _ _)) hg (fun j hj=>(K.o.lt j hj).1));obtain⟨a5,n5,U,rfl,CF⟩:=ho.var;have zW:=ae ho;clear ho hg k9))
   go_roundg (g1-1)
   case measure=>have:=Q.o;omega
   case rel=>exact⟨k+1,a5,n5,U,ae (j1 Q.o),by go_num,rfl,ae (by rw[<-Bw.o];exact zW.o),X5⟩
  ·have hle:¬((k+1:Nat):Int)<=(n:Int)-1:=by omega
   have HT:=ae (show(bG V).take k=bG V from p4 (by rw[CV.o];omega));go_wp2_with fail;go_ret;exact⟨⟨_,rfl,by rw[<-HT.o];exact zv.o.mono J⟩,I4.o.trans HX.o⟩
theorem oI{cap:Nat}{Y:j4}(h:Rats w a n cap Y)(hn:n<=100000)(hY:∀k:Nat,-9223372036854775807<=(Y[k]?.getD (0,0)).1/\(Y[k]?.getD (0,0)).1<=9223372036854775807):
 Calls Tryz.prog 75 #[.slice a n cap] w fun e w'=>(∃v,e=.returned v/\o0 w' w.heap.size v (Y.map ze))/\Ext w w':=by
 have HL:=ae h.hlen;have Ba:=h.l8;have CY:=h.l9;have HI:=ae h;have HB:=ae hY;have HO:=ae (o0.made w w.heap.size (ao _));clear h hY;go_enter Tryz.func75,Tryz.ntmps75
 go_wp2_with fail
 go_loopg [3,9] n (fun gk oo ii wr=>∃(k:Nat) (a1:j6) (G p1:Nat),b7 (gk+k=n)/\ii=.int .i64 (k:Int)/\oo=.slice a1 G p1/\b7 (o0 wr w.heap.size (.slice a1 G p1) ((Y.take k).map ze))/\b7 (Ext w wr))
 case atStart=>exact⟨0,_,_,_,ae e7,rfl,rfl,HO,ae (Ext.alloc _ _)⟩
 case round =>
  obtain⟨g1,Q⟩:=b9 gk;subst Q;obtain⟨o6,U⟩:=b9 wr;subst U;obtain⟨k,a1,G,p1,K,rfl,rfl,zv,HX⟩:=hrel;have hsz:=HX.o.size;by_cases hlt:k<n
  ·obtain⟨eb,zl,x,y,DT,I,AV,Ed⟩:=(HI.o.ext HX.o).at hlt;subst DT;have hb:=HB.o k;rw[I]at hb
   have Bw:=ae (show(Y.take k).map ze++[(-x,y)]=(Y.take (k+1)).map ze by
    have h1:k<Y.length:=by rw[HL.o];exact hlt
    rw[Kn h1,We,ac0];rw[bk h1,l']at I
    rw[I];rfl)
   have Fu:(0:Int)<=(k:Int):=by omega
   have BR:(k:Int)<(n:Int):=by omega
   have GH:=ae (show((Y.take k).map ze).length=k by rw[zo,FX,HL.o];omega);have HM:=ae (fun w'=>eo x y w' hb.1 hb.2);clear I hb;go_wp2_with fail;refine(HM.o _).mono ?_;rintro e w3 ⟨rfl,hx⟩;have X3:=ae ((HX.o.trans (Ext.alloc _ _)).trans hx);have J:=ae ((zv.o.ext (Ext.alloc _ _)).ext hx);have F6:=X3.o.size;clear hx
   go_wp2_with (first
    | (at_builtin;refine aM rfl _ _ rfl w.heap.size (.slice a1 G p1) _ rfl (J.o.ext (Ext.alloc _ _)) _ 1 _ [(-x,y)] rfl (Rats.one' _ _ _ _ _ e8) (by rw[GH.o];omega) (by simp;omega) ?_;intro v5 w5 ho hg k9;have X5:=ae (ak (X3.o.trans (Ext.alloc _ _)) hg (fun j hj=>(J.o.lt j hj).1));obtain⟨a5,Z,O,rfl,CF⟩:=ho.var;have zW:=ae ho;clear ho hg k9))
   go_roundg (g1-1)
   case measure=>have:=K.o;omega
   case rel=>exact⟨k+1,a5,Z,O,ae (j1 K.o),by go_num,rfl,ae (by rw[<-Bw.o];exact zW.o),X5⟩
  ·have HT:=ae (show Y.take k=Y from p4 (by rw[HL.o];omega));rw[HT.o]at zv;go_wp2_with fail;go_ret;exact⟨⟨_,rfl,zv.o⟩,HX.o⟩
def ZF(w:World)(e:Ending)(A:j5)(B:j7)(C:j4)(ok:Bool):Prop :=
 ∃a na ca b nb cb c nc cc,e=.returned (.tuple #[DD a na ca b nb cb c nc cc,.bool ok])/\(ok=true->EA w a na ca b nb cb c nc cc A B C)
theorem QT(hn:n<=32):∀k:Nat,(BY 1 (n-1))[k]?.getD 0<=9223372036854775807:=by
 intro k;by_cases h:k<(BY 1 (n-1)).length
 ·rw[bk h,l'];simp only[BY,zo,acg]at h;simp only[BY,abP,List.getElem_range];omega
 ·rw[G4 e7];decide
theorem sf{p:Int}{cap:Nat}(h:Ints w a n cap V):
 Calls Tryz.prog 69 #[pair p a n cap] w fun e w'=>ZF w' e (cV p.toNat n) (dk p.toNat) (bG V) (aL p V)/\Ext w w':=by
 obtain⟨W,hW⟩:=b9 ((w.alloc (.cells #[.int .i64 p,.slice a n cap] 32)).alloc (.cells #[.slice none 0 0,.slice none 0 0,.slice none 0 0] 68));have Ai:=ae (show W.heap.size=w.heap.size+2 by rw[hW];simp);have y7:=ae (show Ext w W by rw[hW];exact(Ext.alloc _ _).trans (Ext.alloc _ _));have IE:=ae (show W.cell? ⟨w.heap.size,1,none⟩=some (.slice a n cap)by rw[hW];simp);have ID:=ae (show W.cell? ⟨w.heap.size,0,none⟩=some (.int .i64 p)by rw[hW];simp);have PC:=ae (show W.heap[w.heap.size+1]?=some (.cells #[.slice none 0 0,.slice none 0 0,.slice none 0 0] 68 (0,0))by rw[hW];exact ai _ _ _ e8);obtain⟨Z,Q⟩:=b9 (w.alloc (.cells #[.int .i64 p,.slice a n cap] 32));have HXG:=ae (show Ext Z W by rw[hW,Q];exact Ext.alloc _ _);have L7:=ae (show Z.heap.size=w.heap.size+1 by rw[Q];simp);have HG0:=ae (show Z.cell? ⟨w.heap.size,0,none⟩=some (.int .i64 p)by rw[Q];simp);have JQ:=ae (show Z.cell? ⟨w.heap.size,1,none⟩=some (.slice a n cap)by rw[Q];simp);clear Q;have AM:=ae h.hlen;have Jq:=h.l8;have Jp:=h.l9;have FQ:=ae (h.ext y7.o);have HC:=ae (ed (p:=p) (h.ext y7.o));have G8:(w.heap.size+1)<W.heap.size:=by rw[Ai.o];omega
 have zF:=ae (fun(w':World) (hx:Ext W w')=>(hx.block _ G8).trans PC.o);clear h G8;cases hg:aL p V
 ·rw[hg,hW]at HC;clear hg;go_enter Tryz.func69,Tryz.ntmps69
  go_wp2_with fail;refine HC.o.mono ?_;rw[<-hW];rintro e w1 ⟨rfl,G⟩;have A':=zD.BK (zF.o w1 G);have AX:=zD.BJ (zF.o w1 G);have B9:=zD.BI (zF.o w1 G);have GA:=zD.Cw (zF.o w1 G);have yZ:=ae G;clear G;go_wp2_with fail;refine bR (v:=.tuple #[.agg #[.slice none 0 0,.slice none 0 0,.slice none 0 0],.bool false]) (by simp[results,Tryz.results69,go_sem,A',AX,B9]) rfl ⟨⟨none,0,0,none,0,0,none,0,0,rfl,fun h=>Bool.noConfusion h⟩,(((y7.o.trans yZ.o).store 0 e7 _).store 1 e7 _).store 2 e7 _⟩
 ·obtain⟨q,rfl,h1,h5,hlen,_,A4⟩:=bQ hg;have hq:=bP q h5;have Ft:n<=32:=by rw[<-AM.o,hlen];omega
  have B1:1<=n:=by rw[<-AM.o,hlen];omega
  have Eg:=ae A4;have Hy:IntKind.i64.wrap ((n:Int)-1)=(n:Int)-1:=by rw[cn];omega
  rw[hg,hW]at HC;clear hg hlen A4 hq;go_enter Tryz.func69,Tryz.ntmps69
  go_wp2_with fail;refine HC.o.mono ?_;rw[<-hW];clear hW;rintro e w1 ⟨rfl,G⟩;have AB:=G.j9 ID.o;have Ba:=G.j9 IE.o;have yZ:=ae G;clear G HC;have I:=ae (y7.o.trans yZ.o);have W4:=ae (QT Ft);have CS:=ae (show(BY 1 (n-1)).length=n-1 by simp[BY]);go_wp2_with fail;have hk:Ext w1 w1.drew:=Ext.drew w1;refine rN (S:=(fun w'=>w'.cell? ⟨w.heap.size,0,none⟩=some (.int .i64 (q:Int))/\w'.cell? ⟨w.heap.size,1,none⟩=some (.slice a n cap)/\Ext w w')) e9 ?_ (fun J=>?_)
  ·exact⟨hk.j9 AB,hk.j9 Ba,I.o.trans hk⟩
  refine tk 0 ?_;refine tk 1 ?_;refine tk 2 ?_;refine tk 5 ?_;refine tk 6 ?_;refine tk 8 ?_;refine tk 9 ?_;refine rd (i:=3) (h:=fun K hK=>?_);go_simp
  (go_at_call 125;refine(ln 1 ((n:Int)-1) (n-1) e7 e7 e7 e7).mono ?_;rintro e w3 ⟨⟨v3,rfl,Av⟩,zm⟩;obtain⟨a3,n3,c3,rfl,Ia⟩:=Av.var;have hk:=hk.trans zm;have zi:=ae Av;clear Av zm)
  go_wp2_with fail;refine hK.out _ _ ?_ (fun J=>?_)
  ·exact⟨hk.j9 AB,hk.j9 Ba,I.o.trans hk⟩
  clear hK K
  try simp only[Act.put,sA,sB,sC]
  refine rd (i:=4) (h:=fun K hK=>?_);go_simp
  (go_at_call 124;refine(qx q h5 zi.o.ints W4.o (by have h1:=Ia.o;have h2:=CS.o;omega)).mono ?_;rintro e w4 ⟨⟨v4,rfl,C5⟩,zX⟩;obtain⟨a4,n4,c4,rfl,HN4⟩:=C5.var;have U:=ae (dt.mono' C5 hk.size);have hk:=hk.trans zX;clear C5 zX)
  go_wp2_with fail;refine hK.out _ _ ?_ (fun J=>?_)
  ·exact⟨hk.j9 AB,hk.j9 Ba,I.o.trans hk⟩
  clear hK K
  try simp only[Act.put,sA,sB,sC]
  refine rd (i:=7) (h:=fun K hK=>?_);go_simp
  (go_at_call 126;refine(lQ q 1 e7).mono ?_;rintro e w5 ⟨⟨v5,rfl,Fe⟩,AK⟩;obtain⟨a5,n5,c5,rfl,CF⟩:=Fe.var;have U:=ae (dt.ext U.o AK);have zW:=ae (Fe.mono hk.size);have hk:=hk.trans AK;clear Fe AK)
  go_wp2_with fail;refine hK.out _ _ ?_ (fun J=>?_)
  ·exact⟨hk.j9 AB,hk.j9 Ba,I.o.trans hk⟩
  clear hK K
  try simp only[Act.put,sA,sB,sC]
  refine rd (i:=10) (h:=fun K hK=>?_);go_simp
  (go_at_call 127;refine(rE (p:=(q:Int)) (((FQ.o.ext yZ.o).ext hk)) B1 e7 Eg.o).mono ?_;rintro e w6 ⟨⟨v6,rfl,Oo⟩,Ki⟩;obtain⟨a6,n6,c6,rfl,H'⟩:=Oo.var;have U:=ae (dt.ext U.o Ki);have zW:=ae (zW.o.ext Ki);have Cf:=ae (Oo.mono hk.size);have hk:=hk.trans Ki;have Ds:=zF.o _ (yZ.o.trans hk);have A':=zD.BK Ds;have AX:=zD.BJ Ds;have B9:=zD.BI Ds;have GA:=zD.Cw Ds;clear Oo Ki Ds)
  go_wp2_with fail;refine hK.out _ _ ?_ (fun J=>?_)
  ·exact⟨hk.j9 AB,hk.j9 Ba,I.o.trans hk⟩
  clear hK K
  try simp only[Act.put,sA,sB,sC]
  refine tk 11 ?_;have O:=fun u0 u1 u2=>((((HXG.o.trans yZ.o).trans hk).store (b:=w.heap.size+1) 0 (aas L7.o) u0).store (b:=w.heap.size+1) 1 (aas L7.o) u1).store (b:=w.heap.size+1) 2 (aas L7.o) u2
  refine rd (i:=12) (h:=fun K hK=>?_);go_simp;refine hK.out _ _ ?_ (fun J=>?_)
  ·exact⟨(O _ _ _).j9 HG0.o,(O _ _ _).j9 JQ.o,(((I.o.trans hk).store 0 e7 _).store 1 e7 _).store 2 e7 _⟩
  clear hK K
  try simp only[Act.put,sA,sB,sC]
  refine tk 13 ?_;refine Gh e9 ?_ _;have DF:=yZ.o.size;rw[Ai.o]at DF;have S2:∀k,w1.heap.size<=k->(((w6.setCell ⟨w.heap.size+1,0,none⟩ (.slice a4 n4 c4)).setCell ⟨w.heap.size+1,1,none⟩ (.slice a5 n5 c5)).setCell ⟨w.heap.size+1,2,none⟩ (.slice a6 n6 c6)).heap[k]?=w6.heap[k]?:=fun k BR=>by
   rw[bB _ _ _ _ (show k≠w.heap.size+1 by omega),bB _ _ _ _ (show k≠w.heap.size+1 by omega),bB _ _ _ _ (show k≠w.heap.size+1 by omega)]
  go_wp2_with fail;refine bR (v:=.tuple #[DD a4 n4 c4 a5 n5 c5 a6 n6 c6,.bool true]) (by simp[results,Tryz.results69,go_sem,A',AX,B9]) rfl ⟨⟨a4,n4,c4,a5,n5,c5,a6,n6,c6,rfl,fun _=>⟨?_,?_,?_⟩⟩,(((I.o.trans hk).store 0 e7 _).store 1 e7 _).store 2 e7 _⟩
  ·exact dt.Hs (U.o.on _ fun k h1 _=>S2 k h1)
  ·exact(zW.o.on _ fun k h1 _=>S2 k h1).ints
  ·exact(Cf.o.keep fun k h1=>S2 k (Cf.o.lt k h1).1).zj
