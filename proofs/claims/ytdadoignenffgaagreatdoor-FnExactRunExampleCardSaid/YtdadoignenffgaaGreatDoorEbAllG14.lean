import Derived.Test.YtdadoignenffgaaGreatDoorEbAllG13
import Derived.Test.YtdadoignenffgaaGreatDoorEbAllG12
import Derived.Outline
set_option linter.unusedVariables false
set_option linter.unusedSimpArgs false
namespace Go.Proofs.YtdadoignenffgaaGreatDoor
variable{A:j5}{W:World}
set_option maxHeartbeats 16000000
set_option maxRecDepth 100000
open Go.RowKit
structure Lf(w:World)(xa:j6)(xn xc:Nat)(ya:j6)(yn yc:Nat)(ra:j6)(rn rc:Nat)(r:BQ):Prop where
 x:Rats w xa xn xc r.X
 y:Rats w ya yn yc r.Y
 CB:Rats w ra rn rc r.CB
theorem Lf.ext{w w':World}{xa:j6}{xn xc:Nat}{ya:j6}{yn yc:Nat}{ra:j6}{rn rc:Nat}{r:BQ}(h:Lf w xa xn xc ya yn yc ra rn rc r)(hx:Ext w w'):Lf w' xa xn xc ya yn yc ra rn rc r:=⟨h.x.ext hx,h.y.ext hx,h.CB.ext hx⟩
abbrev CC(r:BQ)(xa:j6)(xn xc:Nat)(ya:j6)(yn yc:Nat)(ra:j6)(rn rc:Nat):Value :=
 .agg #[.int .i64 r.status,.slice xa xn xc,.slice ya yn yc,.slice ra rn rc,.int .i64 r.value.1,.int .i64 r.value.2,.int .i64 r.Kf]
abbrev bX(r:BQ)(xa:j6)(xn xc:Nat)(ya:j6)(yn yc:Nat)(ra:j6)(rn rc:Nat):Obj :=
 .cells #[.int .i64 r.status,.slice xa xn xc,.slice ya yn yc,.slice ra rn rc,.int .i64 r.value.1,.int .i64 r.value.2,.int .i64 r.Kf] 72
theorem iz(h:∀i,i<A.length->∀x∈A[i]?.getD [],-5000<=x/\x<=5000)(j:Nat):∀x∈zP A j,-5000<=x/\x<=5000:=by
 intro x hx;obtain⟨r,hr,rfl⟩:=aai.1 hx;obtain⟨i,hi,rfl⟩:=List.mem_iff_getElem.1 hr;by_cases hj:j<A[i].length
 ·rw[bk hj];exact h i hi _ (by rw[bk hi];exact vl _)
 ·rw[G4 e7];simp
theorem mT(A:j5)(j:Nat):(zP A j).length=A.length:=by simp[zP]
theorem uo{Y C:j4}{j:Nat}(h:zr Y (az (zP A j))=none):ar A Y C j=false:=by unfold ar;rw[h]
theorem up{Y C:j4}{j:Nat}{v c:j8}(h:zr Y (az (zP A j))=some v)(hc:C[j]?.getD (0,0)=c):ar A Y C j=((zI c v).2&&decide (0<=(zI c v).1.1)):=by unfold ar;rw[h,hc]
def km(x y:Option (Int×Int))(v:j8):Bool:=match x,y with|some x,some y=>decide (x=y)&&decide (x=v)|_,_=>false
theorem sW(B:j7)(C:j4)(r:BQ):iD B C r=km (zr C r.X) (zr r.Y (az B)) r.value:=rfl
theorem ko(x:Option (Int×Int))(v:j8):km none x v=false/\km x none v=false:=by cases x<;>exact⟨rfl,rfl⟩
theorem oN(x1 x2 I G v1 v2:Int):km (some (x1,x2)) (some (I,G)) (v1,v2)=(((x1 == I)&&(x2 == G))&&((x1 == v1)&&(x2 == v2))):=by
 simp only[km];rw[U9];simp
section
variable{w:World}{a:j6}{na ca:Nat}{b:j6}{nb cb:Nat}{c:j6}{nc cc:Nat}{A:j5}{B:j7}{C:j4}
 {xa:j6} {xn xc:Nat} {ya:j6} {yn yc:Nat} {ra:j6} {rn rc:Nat} {r:BQ}
structure Two(w W:World)(a:j6)(na ca:Nat)(b:j6)(nb cb:Nat)(c:j6)(nc cc:Nat)(xa:j6)(xn xc:Nat)(ya:j6)(yn yc:Nat)(ra:j6)(rn rc:Nat)(r:BQ)(A:j5)(B:j7)(C:j4):Prop where
 ext:Ext ((w.alloc (bj a na ca b nb cb c nc cc)).alloc (bX r xa xn xc ya yn yc ra rn rc)) W
 lp:EA W a na ca b nb cb c nc cc A B C
 lr:Lf W xa xn xc ya yn yc ra rn rc r
theorem Two.grow{W G:World}(h:Two w W a na ca b nb cb c nc cc xa xn xc ya yn yc ra rn rc r A B C)(hx:Ext W G):Two w G a na ca b nb cb c nc cc xa xn xc ya yn yc ra rn rc r A B C:=⟨h.ext.trans hx,h.lp.ext hx,h.lr.ext hx⟩
theorem Two.all{W:World}(h:Two w W a na ca b nb cb c nc cc xa xn xc ya yn yc ra rn rc r A B C):Ext w W:=((Ext.alloc _ _).trans (Ext.alloc _ _)).trans h.ext
theorem Two.p{W:World}(h:Two w W a na ca b nb cb c nc cc xa xn xc ya yn yc ra rn rc r A B C):W.cell? ⟨w.heap.size,0,none⟩=some (.slice a na ca)/\W.cell? ⟨w.heap.size,1,none⟩=some (.slice b nb cb)/\W.cell? ⟨w.heap.size,2,none⟩=some (.slice c nc cc) :=
 ⟨h.ext.j9 e8,h.ext.j9 e8,h.ext.j9 e8⟩
theorem Two.q{W:World}(h:Two w W a na ca b nb cb c nc cc xa xn xc ya yn yc ra rn rc r A B C):W.cell? ⟨w.heap.size+1,0,none⟩=some (.int .i64 r.status)/\W.cell? ⟨w.heap.size+1,1,none⟩=some (.slice xa xn xc)/\W.cell? ⟨w.heap.size+1,2,none⟩=some (.slice ya yn yc)/\W.cell? ⟨w.heap.size+1,3,none⟩=some (.slice ra rn rc)/\W.cell? ⟨w.heap.size+1,4,none⟩=some (.int .i64 r.value.1)/\W.cell? ⟨w.heap.size+1,5,none⟩=some (.int .i64 r.value.2) :=
 ⟨h.ext.j9 e8,h.ext.j9 e8,h.ext.j9 e8,h.ext.j9 e8,h.ext.j9 e8,h.ext.j9 e8⟩
theorem wl(h:EA w a na ca b nb cb c nc cc A B C)(h':Lf w xa xn xc ya yn yc ra rn rc r)(ok:zM A B C=true)(hs:r.status=1):
 Calls Tryz.prog 130 #[DD a na ca b nb cb c nc cc,CC r xa xn xc ya yn yc ra rn rc] w fun e w'=>e=.returned (.bool (aK ar A B C r))/\Ext w w':=by
 obtain⟨r1,r2,r3,r4,r5,r6⟩:=cQ h ok;subst r3;have T0:=ae (show Two w ((w.alloc (bj a nb ca b nb cb c nc cc)).alloc (bX r xa xn xc ya yn yc ra rn rc)) a nb ca b nb cb c nc cc xa xn xc ya yn yc ra rn rc r A B C from⟨Ext.refl _,(h.ext (Ext.alloc _ _)).ext (Ext.alloc _ _),(h'.ext (Ext.alloc _ _)).ext (Ext.alloc _ _)⟩);have An:=h'.y.l8;have EU:=h'.y.l9;have Ba:=h.c.l8;have CY:=h.c.l9;have AS:=h.b.l8;have AD:=h.b.l9;have BE:=ae h.c.hlen;have AO:=ae h.b.hlen;have CG:=ae h.a.hlen;have Li:=ae h'.y.hlen;have HE:=ae (show aK ar A B C r=(dZ A B C.length r.X&&(decide (r.Y.length=B.length)&&((List.range C.length).all (ar A r.Y C)&&iD B C r)))by unfold aK;rw[hI hs]);have Dj:=ae r4;have Jd:=ae (fun j=>iz (A:=A) (fun i hi=>(r5 i (j1 h.a.hlen)).2) j);have J':=ae r6;obtain⟨st,I,G,Q,rv,U⟩:=r;obtain⟨v1,v2⟩:=rv;simp only at hs HE Li;subst hs;have HV:=ae (eJ T0.o.lp);rw[ok]at HV;clear h h' r4 r5 r6;have IQ:=ae (fun(W:World) (t:Two w W a nb ca b nb cb c nc cc xa xn xc ya yn yc ra rn rc ⟨1,I,G,Q,(v1,v2),U⟩ A B C)=>lj t.lp t.lr.x);rw[ok]at IQ;simp only[aad]at IQ;cases hf:dZ A B C.length I
 ·rw[hf]at IQ HE;clear hf;go_enter aa9,aaZ
  go_wp2_with fail;refine HV.o.mono ?_;rintro e w1 ⟨rfl,hx⟩;have T1:=ae (T0.o.grow hx);obtain⟨p0,p1,p2⟩:=T1.o.p;obtain⟨K,q1,q2,q3,q4,J⟩:=T1.o.q;clear hx;go_wp2_with fail;refine(IQ.o _ T1.o).mono ?_;rintro e w2 ⟨rfl,hx⟩;have T2:=ae (T1.o.grow hx);clear hx;go_wp2_with fail;go_ret;exact⟨ag (by rw[HE.o];rfl),T2.o.all⟩
 ·rw[hf]at IQ HE;clear hf;by_cases GU:yn=nb
  ·subst GU;have JW:((yn:Int) != (yn:Int))=false:=by simp
   have CU:=ae (show aK ar A B C ⟨1,I,G,Q,(v1,v2),U⟩=((List.range nc).all (ar A G C)&&iD B C ⟨1,I,G,Q,(v1,v2),U⟩)by rw[HE.o,Li.o,AO.o,BE.o,z' rfl];rfl);go_enter aa9,aaZ
   go_wp2_with fail;refine HV.o.mono ?_;rintro e w1 ⟨rfl,hx⟩;have T1:=ae (T0.o.grow hx);obtain⟨p0,p1,p2⟩:=T1.o.p;obtain⟨K,q1,q2,q3,q4,J⟩:=T1.o.q;clear hx;go_wp2_with fail;refine(IQ.o _ T1.o).mono ?_;rintro e w2 ⟨rfl,hx⟩;have T2:=ae (T1.o.grow hx);clear hx p0 p1 p2 K q1 q2 q3 q4 J;obtain⟨p0,p1,p2⟩:=T2.o.p;obtain⟨K,q1,q2,q3,q4,J⟩:=T2.o.q;go_wp2_with fail
   go_loopg [46] nc (fun gk ii wr=>∃k:Nat,b7 (gk+k=nc)/\ii=.int .i64 (k:Int)/\b7 ((List.range k).all (ar A G C)=true)/\b7 (Two w wr a yn ca b yn cb c nc cc xa xn xc ya yn yc ra rn rc ⟨1,I,G,Q,(v1,v2),U⟩ A B C))
   case atStart=>exact⟨0,ae e7,rfl,ae rfl,T2⟩
   case round =>
    obtain⟨g1,o7⟩:=b9 gk;subst o7;obtain⟨o6,o5⟩:=b9 wr;subst o5;obtain⟨k,HK,rfl,HA,T⟩:=hrel;clear p0 p1 p2 K q1 q2 q3 q4 J;by_cases hlt:k<nc
    ·obtain⟨zb,zL,cx,cy,Dp,Bm,AU,Fq⟩:=T.o.lp.c.at hlt;subst Dp;have HXY:=ae Bm;clear Bm;obtain⟨E,hE⟩:=b9 (o6.alloc (.cells #[.int .i64 cx,.int .i64 cy] 62));have B0:Ext o6 E:=by rw[hE];exact Ext.alloc _ _
     have TE:=ae (T.o.grow B0);have EO:=ae (show ah o6 E o6.heap.size cx cy by rw[hE];exact ah.new (Ext.refl _) _ _);go_upto_region 10 with fail;rw[<-hE];clear hE B0 AU Fq;obtain⟨p0,p1,p2⟩:=TE.o.p;obtain⟨K,q1,q2,q3,q4,J⟩:=TE.o.q;have CV:=ae (mT A k);obtain⟨dv,DJ⟩:=b9 (zr G (az (zP A k)));have JS:=ae DJ.symm;obtain⟨d1,d2,Fz,hdd⟩:∃x y ok,z7 dv=((x,y),ok):=⟨_,_,_,rfl⟩;have EH:=ae hdd;have JL:=ae (show en (zP A k)=az (zP A k)from fZ (Jd.o k));clear DJ hdd;go_upto_region 10 with fail
     go_cut [7,8] (fun sx so wx=>∃g:Nat,sx=.pointer (some ⟨g,0,none⟩)/\so=.bool Fz/\b7 (ah E wx g d1 d2))
     case first =>
      have k7:Ext E E.drew:=Ext.drew E;have Z:Ext E (E.alloc (.cells #[.int .i64 0,.int .i64 0] 62)).drew:=(Ext.alloc _ _).trans (Ext.drew _);have k8:=ae (fun(w':World) (h:Ext E w')=>(⟨h.j9 p0,h.j9 p1,h.j9 p2,h.j9 q2,h⟩:w'.cell? ⟨w.heap.size,0,none⟩=some (.slice a yn ca)/\w'.cell? ⟨w.heap.size,1,none⟩=some (.slice b yn cb)/\w'.cell? ⟨w.heap.size,2,none⟩=some (.slice (some ⟨zb,zL,none⟩) nc cc)/\w'.cell? ⟨w.heap.size+1,2,none⟩=some (.slice ya yn yc)/\Ext E w'))
      go_region_held3 (fun w'=>w'.cell? ⟨w.heap.size,0,none⟩=some (.slice a yn ca)/\w'.cell? ⟨w.heap.size,1,none⟩=some (.slice b yn cb)/\w'.cell? ⟨w.heap.size,2,none⟩=some (.slice (some ⟨zb,zL,none⟩) nc cc)/\w'.cell? ⟨w.heap.size+1,2,none⟩=some (.slice ya yn yc)/\Ext E w')
       (first
         | with_reducible exact k8.o _ k7
         | with_reducible exact k8.o _ Z
         | with_reducible exact k8.o _ ((k7.setCell (by first|(simp;done)|(simp;omega)) _).setCell (by first|(simp;done)|(simp;omega)) _)
         | with_reducible exact k8.o _ (k7.trans (Ext.alloc _ _))
         | with_reducible exact k8.o _ (q8.put _ _).ext)
       (first
         | (go_at_call 198
            (with_reducible refine(sF (b:=b) (nb:=yn) (cb:=cb) (c:=some ⟨zb,zL,none⟩) (nc:=nc) (cc:=cc) (TE.o.lp.a.ext (by first|with_reducible exact k7|with_reducible exact Z|with_reducible exact k7.trans (Ext.alloc _ _))) Dj.o hlt e7 e7).mono ?_)
            rintro e w3 ⟨⟨v3,rfl,Av⟩,y8⟩;obtain⟨a3,n3,c3,rfl,Ff⟩:=Av.var
            first|(with_reducible have q8:=ah.grow q8 y8)|(with_reducible have q8:=ah.zu y8)|(with_reducible have q8:=ah.zy k7 y8)|skip
            first|(have Dy:=q8.c0;have Dx:=q8.c1;have Ev:=q8.free)|skip
            have k7:Ext E w3:=by first|with_reducible exact k7.trans y8|with_reducible exact Z.trans y8|with_reducible exact(k7.trans (Ext.alloc _ _)).trans y8
            have A0:=k7.size)
         | (go_at_call 193
            (with_reducible refine(ja (by first|with_reducible exact Av.ints|with_reducible exact(Av.ext (Ext.alloc _ _)).ints) (by have:=Ff.out;have:=CV.o;have:=CG.o;omega)).mono ?_)
            rw[JL.o];rintro e w4 ⟨⟨v4,rfl,C5⟩,zg⟩;obtain⟨a4,n4,c4,rfl,Ju⟩:=C5.var
            first|(with_reducible have q8:=ah.grow q8 zg)|(with_reducible have q8:=ah.zu zg)|(with_reducible have q8:=ah.zy k7 zg)|skip
            first|(have Dy:=q8.c0;have Dx:=q8.c1;have Ev:=q8.free)|skip
            have k7:Ext E w4:=by first|with_reducible exact k7.trans zg|with_reducible exact Z.trans zg|with_reducible exact(k7.trans (Ext.alloc _ _)).trans zg
            have A0:=k7.size)
         | (go_at_call 197
            (with_reducible refine(fW (TE.o.lr.y.ext (by first|with_reducible exact k7|with_reducible exact Z|with_reducible exact k7.trans (Ext.alloc _ _))) (by first|with_reducible exact C5.zj|with_reducible exact(C5.ext (Ext.alloc _ _)).zj)).mono ?_)
            rw[JS.o,EH.o];rintro e w5 ⟨rfl,O⟩
            first|(with_reducible have q8:=ah.grow q8 O)|(with_reducible have q8:=ah.zu O)|(with_reducible have q8:=ah.zy k7 O)|skip
            first|(have Dy:=q8.c0;have Dx:=q8.c1;have Ev:=q8.free)|skip
            have k7:Ext E w5:=by first|with_reducible exact k7.trans O|with_reducible exact Z.trans O|with_reducible exact(k7.trans (Ext.alloc _ _)).trans O
            have A0:=k7.size)
         | fail)
      all_goals(go_wp2_with fail;go_meet;first|exact⟨_,rfl,rfl,ae (q8.put _ _)⟩|exact⟨_,rfl,rfl,ae (ah.new k7 _ _)⟩|exact⟨_,rfl,rfl,ae (ah.new' k7 _ _ e8)⟩)
     obtain⟨g,rfl,rfl,Ad⟩:=hcut;have Ck:=ae (EO.o.grow Ad.o.ext);have TW:=ae (TE.o.grow Ad.o.ext);clear p0 p1 p2 K q1 q2 q3 q4 J;have c0:=Ck.o.c0;have c1:=Ck.o.c1;have g0:=Ad.o.c0;have g1':=Ad.o.c1;obtain⟨l1,l2,lok,RA⟩:∃x y ok,zI (cx,cy) (d1,d2)=((x,y),ok):=⟨_,_,_,rfl⟩;have W4:=ae (nl cx cy d1 d2 wc);rw[RA]at W4;have AN:=ae RA;clear RA;go_wp2_with fail;refine W4.o.mono ?_;rintro e w6 ⟨rfl,hx⟩;have TX:=ae ((TW.o.grow hx).grow (Ext.alloc _ (.cells #[.int .i64 l1,.int .i64 l2] 62)));clear hx;cases dv with
     | none =>
       have Er:Fz=false:=by have:=EH.o;simp only[z7]at this;simpa using (Jr Prod.snd this).symm
       subst Er;have HF:=ae (show aK ar A B C ⟨1,I,G,Q,(v1,v2),U⟩=false by rw[CU.o,dz hlt (uo JS.o)];rfl);go_wp2_with fail;go_ret;exact⟨ag HF.o.symm,TX.o.all⟩
     | some dvv =>
       have Er:Fz=true:=by have:=EH.o;simp only[z7]at this;simpa using (Jr Prod.snd this).symm
       have E0:dvv=(d1,d2):=by have:=EH.o;simp only[z7]at this;simpa using Jr Prod.fst this
       subst Er E0;have KP:=ae (show ar A G C k=(lok&&decide (0<=l1))by rw[up JS.o HXY.o,AN.o]);cases lok
       ·have HF:=ae (show aK ar A B C ⟨1,I,G,Q,(v1,v2),U⟩=false by rw[CU.o,dz hlt (by rw[KP.o];rfl)];rfl);go_wp2_with fail;go_ret;exact⟨ag HF.o.symm,TX.o.all⟩
       ·by_cases Wv:l1<0
        ·have HF:=ae (show aK ar A B C ⟨1,I,G,Q,(v1,v2),U⟩=false by rw[CU.o,dz hlt (by rw[KP.o,u' e7];rfl)];rfl);go_wp2_with fail;go_ret;exact⟨ag HF.o.symm,TX.o.all⟩
        ·have HT:=ae (show(List.range (k+1)).all (ar A G C)=true by rw[ia,HA.o,KP.o,z' e7];rfl);go_wp2_with fail
         go_roundg (g1-1)
         case measure=>have:=HK.o;omega
         case rel=>exact⟨k+1,ae (j1 HK.o),by go_num,HT,TX⟩
    ·have zQ:nc=k:=by have:=HK.o;omega
     subst zQ;have MC:=ae (show aK ar A B C ⟨1,I,G,Q,(v1,v2),U⟩=iD B C ⟨1,I,G,Q,(v1,v2),U⟩by rw[CU.o,HA.o];rfl);obtain⟨p0,p1,p2⟩:=T.o.p;obtain⟨K,q1,q2,q3,q4,J⟩:=T.o.q;obtain⟨dx,I2⟩:=b9 (zr C I);obtain⟨dy,Kw⟩:=b9 (zr G (az B));have HM:=ae (show iD B C ⟨1,I,G,Q,(v1,v2),U⟩=km dx dy (v1,v2)by rw[sW,I2,Kw]);obtain⟨x1,x2,Qb,KV⟩:∃x y ok,z7 dx=((x,y),ok):=⟨_,_,_,rfl⟩;obtain⟨y1,y2,Ih,NU⟩:∃x y ok,z7 dy=((x,y),ok):=⟨_,_,_,rfl⟩;have DL:=ae KV;have I3:=ae NU;have J9:=ae (fW T.o.lp.c T.o.lr.x);have P7:=ae Kw.symm;rw[<-I2,KV]at J9;have zF:=ae (show en B=az B from fZ J'.o);clear I2 Kw KV NU;go_wp2_with fail;refine J9.o.mono ?_;rintro e w3 ⟨rfl,hx⟩;clear p0 p1 p2 K q1 q2 q3 q4 J;obtain⟨E,hE⟩:=b9 (w3.alloc (.cells #[.int .i64 x1,.int .i64 x2] 62));have B0:Ext w3 E:=by rw[hE];exact Ext.alloc _ _
     have TE:=ae ((T.o.grow hx).grow B0);have EO:=ae (show ah w3 E w3.heap.size x1 x2 by rw[hE];exact ah.new (Ext.refl _) _ _);go_upto_region 16 with fail;rw[<-hE];clear hE B0 hx;obtain⟨p0,p1,p2⟩:=TE.o.p;obtain⟨K,q1,q2,q3,q4,J⟩:=TE.o.q;go_upto_region 16 with fail
     go_cut [13,14] (fun sx so wx=>∃g:Nat,sx=.pointer (some ⟨g,0,none⟩)/\so=.bool Ih/\b7 (ah E wx g y1 y2))
     case first =>
      have k7:Ext E E.drew:=Ext.drew E;have Z:Ext E (E.alloc (.cells #[.int .i64 0,.int .i64 0] 62)).drew:=(Ext.alloc _ _).trans (Ext.drew _);have k8:=ae (fun(w':World) (h:Ext E w')=>(⟨h.j9 p1,h.j9 q2,h⟩:w'.cell? ⟨w.heap.size,1,none⟩=some (.slice b yn cb)/\w'.cell? ⟨w.heap.size+1,2,none⟩=some (.slice ya yn yc)/\Ext E w'))
      go_region_held3 (fun w'=>w'.cell? ⟨w.heap.size,1,none⟩=some (.slice b yn cb)/\w'.cell? ⟨w.heap.size+1,2,none⟩=some (.slice ya yn yc)/\Ext E w')
       (first
         | with_reducible exact k8.o _ k7
         | with_reducible exact k8.o _ Z
         | with_reducible exact k8.o _ ((k7.setCell (by first|(simp;done)|(simp;omega)) _).setCell (by first|(simp;done)|(simp;omega)) _)
         | with_reducible exact k8.o _ (k7.trans (Ext.alloc _ _))
         | with_reducible exact k8.o _ (q8.put _ _).ext)
       (first
         | (go_at_call 193
            (with_reducible refine(ja (TE.o.lp.b.ext (by first|with_reducible exact k7|with_reducible exact Z|with_reducible exact k7.trans (Ext.alloc _ _))) e7).mono ?_)
            rw[zF.o];rintro e w4 ⟨⟨v4,rfl,C5⟩,zg⟩;obtain⟨a4,n4,c4,rfl,Ju⟩:=C5.var
            first|(with_reducible have q8:=ah.grow q8 zg)|(with_reducible have q8:=ah.zu zg)|(with_reducible have q8:=ah.zy k7 zg)|skip
            first|(have Dy:=q8.c0;have Dx:=q8.c1;have Ev:=q8.free)|skip
            have k7:Ext E w4:=by first|with_reducible exact k7.trans zg|with_reducible exact Z.trans zg|with_reducible exact(k7.trans (Ext.alloc _ _)).trans zg
            have A0:=k7.size)
         | (go_at_call 197
            (with_reducible refine(fW (TE.o.lr.y.ext (by first|with_reducible exact k7|with_reducible exact Z|with_reducible exact k7.trans (Ext.alloc _ _))) (by first|with_reducible exact C5.zj|with_reducible exact(C5.ext (Ext.alloc _ _)).zj)).mono ?_)
            rw[P7.o,I3.o];rintro e w5 ⟨rfl,O⟩
            first|(with_reducible have q8:=ah.grow q8 O)|(with_reducible have q8:=ah.zu O)|(with_reducible have q8:=ah.zy k7 O)|skip
            first|(have Dy:=q8.c0;have Dx:=q8.c1;have Ev:=q8.free)|skip
            have k7:Ext E w5:=by first|with_reducible exact k7.trans O|with_reducible exact Z.trans O|with_reducible exact(k7.trans (Ext.alloc _ _)).trans O
            have A0:=k7.size)
         | fail)
      all_goals(go_wp2_with fail;go_meet;first|exact⟨_,rfl,rfl,ae (q8.put _ _)⟩|exact⟨_,rfl,rfl,ae (ah.new k7 _ _)⟩|exact⟨_,rfl,rfl,ae (ah.new' k7 _ _ e8)⟩)
     obtain⟨g,rfl,rfl,Ad⟩:=hcut;have Ck:=ae (EO.o.grow Ad.o.ext);have TW:=ae (TE.o.grow Ad.o.ext);clear p0 p1 p2 K q1 q2 q3 q4 J;obtain⟨p0,p1,p2⟩:=TW.o.p;obtain⟨K,q1,q2,q3,q4,J⟩:=TW.o.q;have c0:=Ck.o.c0;have c1:=Ck.o.c1;have g0:=Ad.o.c0;have g1':=Ad.o.c1;cases dx with
     | none =>
       have Er:Qb=false:=by have:=DL.o;simp only[z7]at this;simpa using (Jr Prod.snd this).symm
       subst Er;go_wp2_with fail;go_ret;exact⟨ag (by rw[MC.o,HM.o,(ko _ _).1]),TW.o.all⟩
     | some xv =>
       have Er:Qb=true:=by have:=DL.o;simp only[z7]at this;simpa using (Jr Prod.snd this).symm
       have E0:xv=(x1,x2):=by have:=DL.o;simp only[z7]at this;simpa using Jr Prod.fst this
       subst Er E0;cases dy with
       | none =>
         have Er:Ih=false:=by have:=I3.o;simp only[z7]at this;simpa using (Jr Prod.snd this).symm
         subst Er;go_wp2_with fail;go_ret;exact⟨ag (by rw[MC.o,HM.o,(ko _ _).2]),TW.o.all⟩
       | some yv =>
         have Er:Ih=true:=by have:=I3.o;simp only[z7]at this;simpa using (Jr Prod.snd this).symm
         have E0:yv=(y1,y2):=by have:=I3.o;simp only[z7]at this;simpa using Jr Prod.fst this
         subst Er E0;have PV:=ae (show aK ar A B C ⟨1,I,G,Q,(v1,v2),U⟩=(((x1 == y1)&&(x2 == y2))&&((x1 == v1)&&(x2 == v2)))by rw[MC.o,HM.o,oN]);cases h1:(x1 == y1)
         all_goals
          cases h2:(x2 == y2)
         all_goals
          have Fm:=ae PV.o;rw[h1,h2]at Fm
         all_goals try(
          have HF:=ae (show aK ar A B C ⟨1,I,G,Q,(v1,v2),U⟩=false by rw[Fm.o];rfl);go_wp2_with fail;go_ret
          exact⟨ag HF.o.symm,TW.o.all⟩)
         cases h3:(x1 == v1)
         all_goals
          cases h4:(x2 == v2)
         all_goals
          rw[h3,h4]at Fm;go_wp2_with fail;go_ret;exact⟨ag (by rw[Fm.o];rfl),TW.o.all⟩
  ·have JW:((yn:Int) != (nb:Int))=true:=by simp;omega
   have HF:=ae (show aK ar A B C ⟨1,I,G,Q,(v1,v2),U⟩=false by rw[HE.o,Li.o,AO.o,u' GU];rfl);go_enter aa9,aaZ
   go_wp2_with fail;refine HV.o.mono ?_;rintro e w1 ⟨rfl,hx⟩;have T1:=ae (T0.o.grow hx);obtain⟨p0,p1,p2⟩:=T1.o.p;obtain⟨K,q1,q2,q3,q4,J⟩:=T1.o.q;clear hx;go_wp2_with fail;refine(IQ.o _ T1.o).mono ?_;rintro e w2 ⟨rfl,hx⟩;have T2:=ae (T1.o.grow hx);clear hx p0 p1 p2 K q1 q2 q3 q4 J;obtain⟨p0,p1,p2⟩:=T2.o.p;obtain⟨K,q1,q2,q3,q4,J⟩:=T2.o.q;go_wp2_with fail;go_ret;exact⟨ag HF.o.symm,T2.o.all⟩
end
def noO(x:Option (Int×Int)):Bool:=match x with|none=>false|some v=>decide (v.1<=0)
def Nq(x:Option (Int×Int)):Bool:=match x with|none=>false|some v=>decide (0<v.1)
def Nz(x:Option (Int×Int)):Bool:=match x with|none=>false|some v=>decide (v.1<0)
def Q6(A:j5)(Y:j4)(j:Nat):Bool:=noO (zr Y (az (zP A j)))
theorem oR(A:j5)(B:j7)(n:Nat)(Y:j4):lR A B n Y=((List.range n).all (Q6 A Y)&&Nq (zr Y (az B))):=rfl
theorem vu(A:j5)(B:j7)(C:j4)(CB:j4):QX A B C CB=((decide (CB.length=C.length)&&DN CB)&&(dC A CB (List.replicate B.length 0)&&Nz (zr C CB))):=by
 unfold QX;rw[Bool.and_assoc];rfl
section
variable{w:World}{a:j6}{na ca:Nat}{b:j6}{nb cb:Nat}{c:j6}{nc cc:Nat}{A:j5}{B:j7}{C:j4}
 {xa:j6} {xn xc:Nat} {ya:j6} {yn yc:Nat} {ra:j6} {rn rc:Nat} {r:BQ}
theorem wm(h:EA w a na ca b nb cb c nc cc A B C)(h':Lf w xa xn xc ya yn yc ra rn rc r)(ok:zM A B C=true)(hs:r.status=2):
 Calls Tryz.prog 130 #[DD a na ca b nb cb c nc cc,CC r xa xn xc ya yn yc ra rn rc] w fun e w'=>e=.returned (.bool (aK ar A B C r))/\Ext w w':=by
 obtain⟨r1,r2,r3,r4,r5,r6⟩:=cQ h ok;subst r3;have T0:=ae (show Two w ((w.alloc (bj a nb ca b nb cb c nc cc)).alloc (bX r xa xn xc ya yn yc ra rn rc)) a nb ca b nb cb c nc cc xa xn xc ya yn yc ra rn rc r A B C from⟨Ext.refl _,(h.ext (Ext.alloc _ _)).ext (Ext.alloc _ _),(h'.ext (Ext.alloc _ _)).ext (Ext.alloc _ _)⟩);have An:=h'.y.l8;have EU:=h'.y.l9;have Ba:=h.c.l8;have CY:=h.c.l9;have AS:=h.b.l8;have AD:=h.b.l9;have BE:=ae h.c.hlen;have AO:=ae h.b.hlen;have CG:=ae h.a.hlen;have Li:=ae h'.y.hlen;have HE:=ae (show aK ar A B C r=(decide (r.Y.length=B.length)&&lR A B C.length r.Y)by unfold aK;rw[hD e7,hI hs]);have Dj:=ae r4;have Jd:=ae (fun j=>iz (A:=A) (fun i hi=>(r5 i (j1 h.a.hlen)).2) j);have J':=ae r6;obtain⟨st,Z,I,Q,rv,U⟩:=r;obtain⟨v1,v2⟩:=rv;simp only at hs HE Li;subst hs;have HV:=ae (eJ T0.o.lp);rw[ok]at HV;clear h h' r4 r5 r6;have J5:((2:Int) == 1)=false:=by decide
 by_cases GU:yn=nb
 ·subst GU;have JW:((yn:Int) != (yn:Int))=false:=by simp
  have CU:=ae (show aK ar A B C ⟨2,Z,I,Q,(v1,v2),U⟩=((List.range nc).all (Q6 A I)&&Nq (zr I (az B)))by rw[HE.o,Li.o,AO.o,BE.o,z' rfl,oR];rfl);go_enter aa9,aaZ
  go_wp2_with fail;refine HV.o.mono ?_;rintro e w1 ⟨rfl,hx⟩;have T1:=ae (T0.o.grow hx);obtain⟨p0,p1,p2⟩:=T1.o.p;obtain⟨q0,q1,q2,q3,q4,q5⟩:=T1.o.q;clear hx;go_wp2_with fail
  go_loopg [123] nc (fun gk ii wr=>∃k:Nat,b7 (gk+k=nc)/\ii=.int .i64 (k:Int)/\b7 ((List.range k).all (Q6 A I)=true)/\b7 (Two w wr a yn ca b yn cb c nc cc xa xn xc ya yn yc ra rn rc ⟨2,Z,I,Q,(v1,v2),U⟩ A B C))
  case atStart=>exact⟨0,ae e7,rfl,ae rfl,T1⟩
  case round =>
   obtain⟨g1,o7⟩:=b9 gk;subst o7;obtain⟨G,o5⟩:=b9 wr;subst o5;obtain⟨k,HK,rfl,HA,T⟩:=hrel;clear p0 p1 p2 q0 q1 q2 q3 q4 q5;by_cases hlt:k<nc
   ·go_upto_region 24 with fail;obtain⟨p0,p1,p2⟩:=T.o.p;obtain⟨q0,q1,q2,q3,q4,q5⟩:=T.o.q;have CV:=ae (mT A k);obtain⟨dv,DJ⟩:=b9 (zr I (az (zP A k)));have JS:=ae DJ.symm;obtain⟨d1,d2,Fz,hdd⟩:∃x y ok,z7 dv=((x,y),ok):=⟨_,_,_,rfl⟩;have EH:=ae hdd;have JL:=ae (show en (zP A k)=az (zP A k)from fZ (Jd.o k));have My:=ae (show Q6 A I k=noO dv by unfold Q6;rw[DJ]);clear DJ hdd;go_upto_region 24 with fail
    go_cut [16,17] (fun sx so wx=>∃g:Nat,sx=.pointer (some ⟨g,0,none⟩)/\so=.bool Fz/\b7 (ah G wx g d1 d2))
    case first =>
     have k7:Ext G G.drew:=Ext.drew G;have K:Ext G (G.alloc (.cells #[.int .i64 0,.int .i64 0] 62)).drew:=(Ext.alloc _ _).trans (Ext.drew _);have k8:=ae (fun(w':World) (h:Ext G w')=>(⟨h.j9 p0,h.j9 p1,h.j9 p2,h.j9 q2,h⟩:w'.cell? ⟨w.heap.size,0,none⟩=some (.slice a yn ca)/\w'.cell? ⟨w.heap.size,1,none⟩=some (.slice b yn cb)/\w'.cell? ⟨w.heap.size,2,none⟩=some (.slice c nc cc)/\w'.cell? ⟨w.heap.size+1,2,none⟩=some (.slice ya yn yc)/\Ext G w'))
     go_region_held3 (fun w'=>w'.cell? ⟨w.heap.size,0,none⟩=some (.slice a yn ca)/\w'.cell? ⟨w.heap.size,1,none⟩=some (.slice b yn cb)/\w'.cell? ⟨w.heap.size,2,none⟩=some (.slice c nc cc)/\w'.cell? ⟨w.heap.size+1,2,none⟩=some (.slice ya yn yc)/\Ext G w')
      (first
        | with_reducible exact k8.o _ k7
        | with_reducible exact k8.o _ K
        | with_reducible exact k8.o _ ((k7.setCell (by first|(simp;done)|(simp;omega)) _).setCell (by first|(simp;done)|(simp;omega)) _)
        | with_reducible exact k8.o _ (k7.trans (Ext.alloc _ _))
        | with_reducible exact k8.o _ (q8.put _ _).ext)
      (first
        | (go_at_call 198
           (with_reducible refine(sF (b:=b) (nb:=yn) (cb:=cb) (c:=c) (nc:=nc) (cc:=cc) (T.o.lp.a.ext (by first|with_reducible exact k7|with_reducible exact K|with_reducible exact k7.trans (Ext.alloc _ _))) Dj.o hlt e7 e7).mono ?_)
           rintro e w3 ⟨⟨v3,rfl,Av⟩,y8⟩;obtain⟨a3,n3,c3,rfl,Ff⟩:=Av.var
           first|(with_reducible have q8:=ah.grow q8 y8)|(with_reducible have q8:=ah.zu y8)|(with_reducible have q8:=ah.zy k7 y8)|skip
           first|(have Dy:=q8.c0;have Dx:=q8.c1;have Ev:=q8.free)|skip
           have k7:Ext G w3:=by first|with_reducible exact k7.trans y8|with_reducible exact K.trans y8|with_reducible exact(k7.trans (Ext.alloc _ _)).trans y8
           have A0:=k7.size)
        | (go_at_call 193
           (with_reducible refine(ja (by first|with_reducible exact Av.ints|with_reducible exact(Av.ext (Ext.alloc _ _)).ints) (by have:=Ff.out;have:=CV.o;have:=CG.o;omega)).mono ?_)
           rw[JL.o];rintro e w4 ⟨⟨v4,rfl,O⟩,zg⟩;obtain⟨a4,n4,c4,rfl,Ju⟩:=O.var
           first|(with_reducible have q8:=ah.grow q8 zg)|(with_reducible have q8:=ah.zu zg)|(with_reducible have q8:=ah.zy k7 zg)|skip
           first|(have Dy:=q8.c0;have Dx:=q8.c1;have Ev:=q8.free)|skip
           have k7:Ext G w4:=by first|with_reducible exact k7.trans zg|with_reducible exact K.trans zg|with_reducible exact(k7.trans (Ext.alloc _ _)).trans zg
           have A0:=k7.size)
        | (go_at_call 197
           (with_reducible refine(fW (T.o.lr.y.ext (by first|with_reducible exact k7|with_reducible exact K|with_reducible exact k7.trans (Ext.alloc _ _))) (by first|with_reducible exact O.zj|with_reducible exact(O.ext (Ext.alloc _ _)).zj)).mono ?_)
           rw[JS.o,EH.o];rintro e w5 ⟨rfl,J⟩
           first|(with_reducible have q8:=ah.grow q8 J)|(with_reducible have q8:=ah.zu J)|(with_reducible have q8:=ah.zy k7 J)|skip
           first|(have Dy:=q8.c0;have Dx:=q8.c1;have Ev:=q8.free)|skip
           have k7:Ext G w5:=by first|with_reducible exact k7.trans J|with_reducible exact K.trans J|with_reducible exact(k7.trans (Ext.alloc _ _)).trans J
           have A0:=k7.size)
        | fail)
     all_goals(go_wp2_with fail;go_meet;first|exact⟨_,rfl,rfl,ae (q8.put _ _)⟩|exact⟨_,rfl,rfl,ae (ah.new k7 _ _)⟩|exact⟨_,rfl,rfl,ae (ah.new' k7 _ _ e8)⟩)
    obtain⟨g,rfl,rfl,Ad⟩:=hcut;have TW:=ae (T.o.grow Ad.o.ext);clear p0 p1 p2 q0 q1 q2 q3 q4 q5;have g0:=Ad.o.c0;cases dv with
    | none =>
      have Er:Fz=false:=by have:=EH.o;simp only[z7]at this;simpa using (Jr Prod.snd this).symm
      subst Er;have HF:=ae (show aK ar A B C ⟨2,Z,I,Q,(v1,v2),U⟩=false by rw[CU.o,dz hlt (by rw[My.o];rfl)];rfl);go_wp2_with fail;go_ret;exact⟨ag HF.o.symm,TW.o.all⟩
    | some dvv =>
      have Er:Fz=true:=by have:=EH.o;simp only[z7]at this;simpa using (Jr Prod.snd this).symm
      have E0:dvv=(d1,d2):=by have:=EH.o;simp only[z7]at this;simpa using Jr Prod.fst this
      subst Er E0;by_cases Wv:d1 > 0
      ·have HF:=ae (show aK ar A B C ⟨2,Z,I,Q,(v1,v2),U⟩=false by rw[CU.o,dz hlt (by rw[My.o];exact u' e7)];rfl);go_wp2_with fail;go_ret;exact⟨ag HF.o.symm,TW.o.all⟩
      ·have HT:=ae (show(List.range (k+1)).all (Q6 A I)=true by rw[ia,HA.o,My.o,aad];exact z' e7);go_wp2_with fail
       go_roundg (g1-1)
       case measure=>have:=HK.o;omega
       case rel=>exact⟨k+1,ae (j1 HK.o),by go_num,HT,TW⟩
   ·have zQ:nc=k:=by have:=HK.o;omega
    subst zQ;have MC:=ae (show aK ar A B C ⟨2,Z,I,Q,(v1,v2),U⟩=Nq (zr I (az B))by rw[CU.o,HA.o];rfl);obtain⟨dy,Kw⟩:=b9 (zr I (az B));rw[<-Kw]at MC;obtain⟨y1,y2,Ih,NU⟩:∃x y ok,z7 dy=((x,y),ok):=⟨_,_,_,rfl⟩;have I3:=ae NU;have P7:=ae Kw.symm;have zF:=ae (show en B=az B from fZ J'.o);clear Kw NU;go_upto_region 28 with fail;obtain⟨p0,p1,p2⟩:=T.o.p;obtain⟨q0,q1,q2,q3,q4,q5⟩:=T.o.q;go_upto_region 28 with fail
    go_cut [18,19] (fun sx so wx=>∃g:Nat,sx=.pointer (some ⟨g,0,none⟩)/\so=.bool Ih/\b7 (ah G wx g y1 y2))
    case first =>
     have k7:Ext G G.drew:=Ext.drew G;have K:Ext G (G.alloc (.cells #[.int .i64 0,.int .i64 0] 62)).drew:=(Ext.alloc _ _).trans (Ext.drew _);have k8:=ae (fun(w':World) (h:Ext G w')=>(⟨h.j9 p1,h.j9 q2,h⟩:w'.cell? ⟨w.heap.size,1,none⟩=some (.slice b yn cb)/\w'.cell? ⟨w.heap.size+1,2,none⟩=some (.slice ya yn yc)/\Ext G w'))
     go_region_held3 (fun w'=>w'.cell? ⟨w.heap.size,1,none⟩=some (.slice b yn cb)/\w'.cell? ⟨w.heap.size+1,2,none⟩=some (.slice ya yn yc)/\Ext G w')
      (first
        | with_reducible exact k8.o _ k7
        | with_reducible exact k8.o _ K
        | with_reducible exact k8.o _ ((k7.setCell (by first|(simp;done)|(simp;omega)) _).setCell (by first|(simp;done)|(simp;omega)) _)
        | with_reducible exact k8.o _ (k7.trans (Ext.alloc _ _))
        | with_reducible exact k8.o _ (q8.put _ _).ext)
      (first
        | (go_at_call 193
           (with_reducible refine(ja (T.o.lp.b.ext (by first|with_reducible exact k7|with_reducible exact K|with_reducible exact k7.trans (Ext.alloc _ _))) e7).mono ?_)
           rw[zF.o];rintro e w4 ⟨⟨v4,rfl,O⟩,zg⟩;obtain⟨a4,n4,c4,rfl,Ju⟩:=O.var
           first|(with_reducible have q8:=ah.grow q8 zg)|(with_reducible have q8:=ah.zu zg)|(with_reducible have q8:=ah.zy k7 zg)|skip
           first|(have Dy:=q8.c0;have Dx:=q8.c1;have Ev:=q8.free)|skip
           have k7:Ext G w4:=by first|with_reducible exact k7.trans zg|with_reducible exact K.trans zg|with_reducible exact(k7.trans (Ext.alloc _ _)).trans zg
           have A0:=k7.size)
        | (go_at_call 197
           (with_reducible refine(fW (T.o.lr.y.ext (by first|with_reducible exact k7|with_reducible exact K|with_reducible exact k7.trans (Ext.alloc _ _))) (by first|with_reducible exact O.zj|with_reducible exact(O.ext (Ext.alloc _ _)).zj)).mono ?_)
           rw[P7.o,I3.o];rintro e w5 ⟨rfl,J⟩
           first|(with_reducible have q8:=ah.grow q8 J)|(with_reducible have q8:=ah.zu J)|(with_reducible have q8:=ah.zy k7 J)|skip
           first|(have Dy:=q8.c0;have Dx:=q8.c1;have Ev:=q8.free)|skip
           have k7:Ext G w5:=by first|with_reducible exact k7.trans J|with_reducible exact K.trans J|with_reducible exact(k7.trans (Ext.alloc _ _)).trans J
           have A0:=k7.size)
        | fail)
     all_goals(go_wp2_with fail;go_meet;first|exact⟨_,rfl,rfl,ae (q8.put _ _)⟩|exact⟨_,rfl,rfl,ae (ah.new k7 _ _)⟩|exact⟨_,rfl,rfl,ae (ah.new' k7 _ _ e8)⟩)
    obtain⟨g,rfl,rfl,Ad⟩:=hcut;have TW:=ae (T.o.grow Ad.o.ext);clear p0 p1 p2 q0 q1 q2 q3 q4 q5;have g0:=Ad.o.c0;cases dy with
    | none =>
      have Er:Ih=false:=by have:=I3.o;simp only[z7]at this;simpa using (Jr Prod.snd this).symm
      subst Er;go_wp2_with fail;go_ret;exact⟨ag (by rw[MC.o];rfl),TW.o.all⟩
    | some yv =>
      have Er:Ih=true:=by have:=I3.o;simp only[z7]at this;simpa using (Jr Prod.snd this).symm
      have E0:yv=(y1,y2):=by have:=I3.o;simp only[z7]at this;simpa using Jr Prod.fst this
      subst Er E0;by_cases BG:y1 > 0
      ·go_wp2_with fail;go_ret;exact⟨ag (by rw[MC.o];exact(z' BG).symm),TW.o.all⟩
      ·go_wp2_with fail;go_ret;exact⟨ag (by rw[MC.o];exact(u' e7).symm),TW.o.all⟩
 ·have JW:((yn:Int) != (nb:Int))=true:=by simp;omega
  have HF:=ae (show aK ar A B C ⟨2,Z,I,Q,(v1,v2),U⟩=false by rw[HE.o,Li.o,AO.o,u' GU];rfl);go_enter aa9,aaZ
  go_wp2_with fail;refine HV.o.mono ?_;rintro e w1 ⟨rfl,hx⟩;have T1:=ae (T0.o.grow hx);obtain⟨p0,p1,p2⟩:=T1.o.p;obtain⟨q0,q1,q2,q3,q4,q5⟩:=T1.o.q;clear hx;go_wp2_with fail;go_ret;exact⟨ag HF.o.symm,T1.o.all⟩
end
section
variable{w:World}{a:j6}{na ca:Nat}{b:j6}{nb cb:Nat}{c:j6}{nc cc:Nat}{A:j5}{B:j7}{C:j4}
 {xa:j6} {xn xc:Nat} {ya:j6} {yn yc:Nat} {ra:j6} {rn rc:Nat} {r:BQ}
theorem wo(h:EA w a na ca b nb cb c nc cc A B C)(h':Lf w xa xn xc ya yn yc ra rn rc r)(ok:zM A B C=true)(hs:r.status=3):
 Calls Tryz.prog 130 #[DD a na ca b nb cb c nc cc,CC r xa xn xc ya yn yc ra rn rc] w fun e w'=>e=.returned (.bool (aK ar A B C r))/\Ext w w':=by
 obtain⟨r1,r2,r3,r4,r5,r6⟩:=cQ h ok;subst r3;have T0:=ae (show Two w ((w.alloc (bj a nb ca b nb cb c nc cc)).alloc (bX r xa xn xc ya yn yc ra rn rc)) a nb ca b nb cb c nc cc xa xn xc ya yn yc ra rn rc r A B C from⟨Ext.refl _,(h.ext (Ext.alloc _ _)).ext (Ext.alloc _ _),(h'.ext (Ext.alloc _ _)).ext (Ext.alloc _ _)⟩);have An:=h'.y.l8;have EU:=h'.y.l9;have Ba:=h.c.l8;have CY:=h.c.l9;have AS:=h.b.l8;have AD:=h.b.l9;have BE:=ae h.c.hlen;have AO:=ae h.b.hlen;have CG:=ae h.a.hlen;have Li:=ae h'.y.hlen;have HE:=ae (show aK ar A B C r=(dZ A B C.length r.X&&QX A B C r.CB)by unfold aK;rw[hD e7,hD e7,hI hs]);have Dj:=ae r4;have I7:=ae r5;have Jd:=ae (fun j=>iz (A:=A) (fun i hi=>(r5 i (j1 h.a.hlen)).2) j);have J':=ae r6;obtain⟨st,O,Z,G,rv,U⟩:=r;obtain⟨v1,v2⟩:=rv;simp only at hs HE Li;subst hs;have HV:=ae (eJ T0.o.lp);rw[ok]at HV;clear h h' r4 r5 r6;have J:=ae (fun(W:World) (t:Two w W a nb ca b nb cb c nc cc xa xn xc ya yn yc ra rn rc ⟨3,O,Z,G,(v1,v2),U⟩ A B C)=>lj t.lp t.lr.x);rw[ok]at J;simp only[aad]at J;have CE:((3:Int) == 1)=false:=by decide
 have B6:((3:Int) == 2)=false:=by decide
 cases hf:dZ A B C.length O
 ·rw[hf]at J HE;clear hf;go_enter aa9,aaZ
  go_wp2_with fail;refine HV.o.mono ?_;rintro e w1 ⟨rfl,hx⟩;have T1:=ae (T0.o.grow hx);obtain⟨p0,p1,p2⟩:=T1.o.p;obtain⟨q0,q1,q2,q3,q4,q5⟩:=T1.o.q;clear hx;go_upto_region 31 with fail;have k7:Ext w1 w1.drew:=Ext.drew w1;refine rN (S:=(fun w'=>w'.cell? ⟨w.heap.size,0,none⟩=some (.slice a nb ca)/\w'.cell? ⟨w.heap.size,1,none⟩=some (.slice b nb cb)/\w'.cell? ⟨w.heap.size,2,none⟩=some (.slice c nc cc)/\w'.cell? ⟨w.heap.size+1,1,none⟩=some (.slice xa xn xc)/\w'.cell? ⟨w.heap.size+1,3,none⟩=some (.slice ra rn rc)/\Ext w1 w')) e9 ?_ (fun I=>?_)
  ·exact⟨k7.j9 p0,k7.j9 p1,k7.j9 p2,k7.j9 q1,k7.j9 q3,k7⟩
  refine tk 0 ?_;refine tk 1 ?_;refine tk 2 ?_;refine rd (i:=3) (h:=fun K hK=>?_);go_simp
  (go_at_call 196;refine(J.o _ (T1.o.grow k7)).mono ?_;rintro e w3 ⟨rfl,Q⟩;have k7:=k7.trans Q)
  go_wp2_with fail;refine hK.out _ _ ?_ (fun I=>?_)
  ·exact⟨k7.j9 p0,k7.j9 p1,k7.j9 p2,k7.j9 q1,k7.j9 q3,k7⟩
  clear hK K
  try simp only[Act.put,sA,sB,sC]
  refine tk 4 ?_;refine tk 5 ?_;refine sk 6 ?_;refine sk 7 ?_;refine sk 8 ?_;refine sk 9 ?_;refine sk 10 ?_;refine sk 11 ?_;refine sk 12 ?_;refine tk 13 ?_;refine tk 14 ?_;refine sk 15 ?_;refine sk 16 ?_;refine sk 17 ?_;refine sk 18 ?_;refine sk 19 ?_;refine sk 20 ?_;refine sk 21 ?_;refine sk 22 ?_;refine sk 23 ?_;refine tk 24 ?_;refine Gh e9 ?_ _;go_wp2_with fail;go_ret;exact⟨ag (by rw[HE.o];rfl),(T1.o.grow k7).all⟩
 ·rw[hf]at J HE;clear hf;have CU:=ae (show aK ar A B C ⟨3,O,Z,G,(v1,v2),U⟩=((decide (G.length=nc)&&DN G)&&(dC A G (List.replicate nb 0)&&Nz (zr C G)))by rw[HE.o,vu,BE.o,AO.o,aad]);have Xc:=ae (fun(W:World) (t:Two w W a nb ca b nb cb c nc cc xa xn xc ya yn yc ra rn rc ⟨3,O,Z,G,(v1,v2),U⟩ A B C)=>kF t.lr.CB nc);cases hn:(decide (G.length=nc)&&DN G)
  ·rw[hn]at CU;simp only[hn]at Xc;clear hn;go_enter aa9,aaZ
   go_wp2_with fail;refine HV.o.mono ?_;rintro e w1 ⟨rfl,hx⟩;have T1:=ae (T0.o.grow hx);obtain⟨p0,p1,p2⟩:=T1.o.p;obtain⟨q0,q1,q2,q3,q4,q5⟩:=T1.o.q;clear hx;go_upto_region 31 with fail;have k7:Ext w1 w1.drew:=Ext.drew w1;refine rN (S:=(fun w'=>w'.cell? ⟨w.heap.size,0,none⟩=some (.slice a nb ca)/\w'.cell? ⟨w.heap.size,1,none⟩=some (.slice b nb cb)/\w'.cell? ⟨w.heap.size,2,none⟩=some (.slice c nc cc)/\w'.cell? ⟨w.heap.size+1,1,none⟩=some (.slice xa xn xc)/\w'.cell? ⟨w.heap.size+1,3,none⟩=some (.slice ra rn rc)/\Ext w1 w')) e9 ?_ (fun I=>?_)
   ·exact⟨k7.j9 p0,k7.j9 p1,k7.j9 p2,k7.j9 q1,k7.j9 q3,k7⟩
   refine tk 0 ?_;refine tk 1 ?_;refine tk 2 ?_;refine rd (i:=3) (h:=fun K hK=>?_);go_simp
   (go_at_call 196;refine(J.o _ (T1.o.grow k7)).mono ?_;rintro e w3 ⟨rfl,Q⟩;have k7:=k7.trans Q)
   go_wp2_with fail;refine hK.out _ _ ?_ (fun I=>?_)
   ·exact⟨k7.j9 p0,k7.j9 p1,k7.j9 p2,k7.j9 q1,k7.j9 q3,k7⟩
   clear hK K
   try simp only[Act.put,sA,sB,sC]
   refine tk 4 ?_;refine tk 5 ?_;refine tk 6 ?_;refine tk 7 ?_;refine tk 8 ?_;refine tk 9 ?_;refine tk 10 ?_;refine rd (i:=11) (h:=fun K hK=>?_);go_simp
   (go_at_call 199;refine(Xc.o _ (T1.o.grow k7)).mono ?_;rintro e w4 ⟨rfl,zX⟩;have k7:=k7.trans zX)
   go_wp2_with fail;refine hK.out _ _ ?_ (fun I=>?_)
   ·exact⟨k7.j9 p0,k7.j9 p1,k7.j9 p2,k7.j9 q1,k7.j9 q3,k7⟩
   clear hK K
   try simp only[Act.put,sA,sB,sC]
   refine tk 12 ?_;refine tk 13 ?_;refine tk 14 ?_;refine sk 15 ?_;refine sk 16 ?_;refine sk 17 ?_;refine sk 18 ?_;refine sk 19 ?_;refine sk 20 ?_;refine sk 21 ?_;refine sk 22 ?_;refine sk 23 ?_;refine tk 24 ?_;refine Gh e9 ?_ _;go_wp2_with fail;go_ret;exact⟨ag (by rw[CU.o];rfl),(T1.o.grow k7).all⟩
  ·rw[hn]at CU;simp only[hn]at Xc;clear hn;have Ly:=gh nb e7;have Gv:=ae (fun(W:World) (t:Two w W a nb ca b nb cb c nc cc xa xn xc ya yn yc ra rn rc ⟨3,O,Z,G,(v1,v2),U⟩ A B C)=>uY (b:=b) (nb:=nb) (cb:=cb) (c:=c) (nc:=nc) (cc:=cc) (t.grow (Ext.alloc W (.cells (be (List.replicate nb 0)) 3))).lp.a (t.grow (Ext.alloc W (.cells (be (List.replicate nb 0)) 3))).lr.CB (Row.ints (show Row (W.alloc (.cells (be (List.replicate nb 0)) 3)) W.heap.size 3 (List.replicate nb 0)from L' _ _) e8 (ao nb) e7) (ao _) I7.o);obtain⟨gv,Fv⟩:=b9 (dC A G (List.replicate nb 0));rw[<-Fv]at CU;simp only[<-Fv]at Gv;clear Fv;go_enter aa9,aaZ
   go_wp2_with fail;refine HV.o.mono ?_;rintro e w1 ⟨rfl,hx⟩;have T1:=ae (T0.o.grow hx);obtain⟨p0,p1,p2⟩:=T1.o.p;obtain⟨q0,q1,q2,q3,q4,q5⟩:=T1.o.q;clear hx;go_upto_region 31 with fail;have k7:Ext w1 w1.drew:=Ext.drew w1;refine rN (S:=(fun w'=>w'.cell? ⟨w.heap.size,0,none⟩=some (.slice a nb ca)/\w'.cell? ⟨w.heap.size,1,none⟩=some (.slice b nb cb)/\w'.cell? ⟨w.heap.size,2,none⟩=some (.slice c nc cc)/\w'.cell? ⟨w.heap.size+1,1,none⟩=some (.slice xa xn xc)/\w'.cell? ⟨w.heap.size+1,3,none⟩=some (.slice ra rn rc)/\Ext w1 w')) e9 ?_ (fun I=>?_)
   ·exact⟨k7.j9 p0,k7.j9 p1,k7.j9 p2,k7.j9 q1,k7.j9 q3,k7⟩
   refine tk 0 ?_;refine tk 1 ?_;refine tk 2 ?_;refine rd (i:=3) (h:=fun K hK=>?_);go_simp
   (go_at_call 196;refine(J.o _ (T1.o.grow k7)).mono ?_;rintro e w3 ⟨rfl,Q⟩;have k7:=k7.trans Q)
   go_wp2_with fail;refine hK.out _ _ ?_ (fun I=>?_)
   ·exact⟨k7.j9 p0,k7.j9 p1,k7.j9 p2,k7.j9 q1,k7.j9 q3,k7⟩
   clear hK K
   try simp only[Act.put,sA,sB,sC]
   refine tk 4 ?_;refine tk 5 ?_;refine tk 6 ?_;refine tk 7 ?_;refine tk 8 ?_;refine tk 9 ?_;refine tk 10 ?_;refine rd (i:=11) (h:=fun K hK=>?_);go_simp
   (go_at_call 199;refine(Xc.o _ (T1.o.grow k7)).mono ?_;rintro e w4 ⟨rfl,zX⟩;have k7:=k7.trans zX)
   go_wp2_with fail;refine hK.out _ _ ?_ (fun I=>?_)
   ·exact⟨k7.j9 p0,k7.j9 p1,k7.j9 p2,k7.j9 q1,k7.j9 q3,k7⟩
   clear hK K
   try simp only[Act.put,sA,sB,sC]
   refine tk 12 ?_;refine tk 13 ?_;refine tk 14 ?_;refine tk 15 ?_;refine tk 16 ?_;refine tk 17 ?_;refine tk 18 ?_;refine tk 19 ?_;refine tk 20 ?_;have TG:=ae (T1.o.grow k7);have S3:=k7;have k7:=S3.trans (Ext.alloc w4 (.cells (be (List.replicate nb 0)) 3));refine rd (i:=21) (h:=fun K hK=>?_);go_simp;refine hK.out _ _ ?_ (fun I=>?_)
   ·exact⟨k7.j9 p0,k7.j9 p1,k7.j9 p2,k7.j9 q1,k7.j9 q3,k7⟩
   clear hK K
   try simp only[Act.put,sA,sB,sC]
   refine rd (i:=22) (h:=fun K hK=>?_);go_simp
   (go_at_call 200;refine(Gv.o _ TG.o).mono ?_;rintro e w5 ⟨rfl,AK⟩;have k7:=k7.trans AK)
   go_wp2_with fail;refine hK.out _ _ ?_ (fun I=>?_)
   ·exact⟨k7.j9 p0,k7.j9 p1,k7.j9 p2,k7.j9 q1,k7.j9 q3,k7⟩
   clear hK K
   try simp only[Act.put,sA,sB,sC]
   refine tk 23 ?_;refine tk 24 ?_;refine Gh e9 ?_ _;have TW:=ae (T1.o.grow k7);clear k7 S3 p0 p1 p2 q0 q1 q2 q3 q4 q5;obtain⟨p0,p1,p2⟩:=TW.o.p;obtain⟨q0,q1,q2,q3,q4,q5⟩:=TW.o.q;cases gv
   ·go_wp2_with fail;go_ret;exact⟨ag (by rw[CU.o];rfl),TW.o.all⟩
   ·obtain⟨dx,I2⟩:=b9 (zr C G);have J9:=ae (fW TW.o.lp.c TW.o.lr.CB);have MC:=ae (show aK ar A B C ⟨3,O,Z,G,(v1,v2),U⟩=Nz dx by rw[CU.o,I2];rfl);rw[<-I2]at J9;clear I2;cases dx with
    | none =>
      rw[show z7 none=((0,0),false)from rfl]at J9;go_wp2_with fail;refine J9.o.mono ?_;rintro e w6 ⟨rfl,hx⟩;have TX:=ae ((TW.o.grow hx).grow (Ext.alloc _ (.cells #[.int .i64 0,.int .i64 0] 62)));clear hx;go_wp2_with fail;go_ret;exact⟨ag (by rw[MC.o];rfl),TX.o.all⟩
    | some v =>
      obtain⟨x1,x2⟩:=v;rw[show z7 (some (x1,x2))=((x1,x2),true)from rfl]at J9;go_wp2_with fail;refine J9.o.mono ?_;rintro e w6 ⟨rfl,hx⟩;have TX:=ae ((TW.o.grow hx).grow (Ext.alloc _ (.cells #[.int .i64 x1,.int .i64 x2] 62)));clear hx;by_cases y9:x1<0
      ·go_wp2_with fail;go_ret;exact⟨ag (by rw[MC.o];exact(z' y9).symm),TX.o.all⟩
      ·go_wp2_with fail;go_ret;exact⟨ag (by rw[MC.o];rfl),TX.o.all⟩
theorem xK(h:EA w a na ca b nb cb c nc cc A B C)(h':Lf w xa xn xc ya yn yc ra rn rc r)(ok:zM A B C=true):
 Calls Tryz.prog 130 #[DD a na ca b nb cb c nc cc,CC r xa xn xc ya yn yc ra rn rc] w fun e w'=>e=.returned (.bool (aK ar A B C r))/\Ext w w':=by
 by_cases h1:r.status=1
 ·exact wl h h' ok h1
 by_cases h2:r.status=2
 ·exact wm h h' ok h2
 by_cases h3:r.status=3
 ·exact wo h h' ok h3
 have HE:=ae (show aK ar A B C r=false by unfold aK;rw[hD h1,hD h2,hD h3]);have G:=ae (show Two w ((w.alloc (bj a na ca b nb cb c nc cc)).alloc (bX r xa xn xc ya yn yc ra rn rc)) a na ca b nb cb c nc cc xa xn xc ya yn yc ra rn rc r A B C from⟨Ext.refl _,(h.ext (Ext.alloc _ _)).ext (Ext.alloc _ _),(h'.ext (Ext.alloc _ _)).ext (Ext.alloc _ _)⟩);have HV:=ae (eJ G.o.lp);rw[ok]at HV;obtain⟨st,rX,rY,rr,I,rp⟩:=r;obtain⟨v1,v2⟩:=I;simp only at h1 h2 h3;have e1:(st == 1)=false:=by simp;omega
 have e2:(st == 2)=false:=by simp;omega
 have e3:(st == 3)=false:=by simp;omega
 clear h h' h1 h2 h3;go_enter aa9,aaZ
 go_wp2_with fail;refine HV.o.mono ?_;rintro e w1 ⟨rfl,hx⟩;have T1:=ae (G.o.grow hx);obtain⟨p0,p1,p2⟩:=T1.o.p;obtain⟨q0,q1,q2,q3,q4,q5⟩:=T1.o.q;clear hx;go_wp2_with fail;go_ret;exact⟨ag HE.o.symm,T1.o.all⟩
end
theorem sV{α β:Type}(f:α->β){l:List α}{k:Nat}{d:α}(h:k<l.length):(l.take k).map f++[f (l[k]?.getD d)]=(l.take (k+1)).map f:=by
 rw[Kn h,We,bk h];rfl
theorem dm{β:Type}(f:Nat->β)(k:Nat):(List.range k).map f++[f k]=(List.range (k+1)).map f:=by rw[TP];simp
theorem ui(m i:Nat):pu m i=(List.range m).map fun k=>if k=i then((1:Int),(1:Int)) else(0,1):=rfl
section
variable{w:World}{a:j6}{na ca:Nat}{b:j6}{nb cb:Nat}{c:j6}{nc cc:Nat}{A:j5}{B:j7}{C:j4}
theorem pK(h:EA w a na ca b nb cb c nc cc A B C)(ok:zM A B C=true):
 Calls Tryz.prog 190 #[DD a na ca b nb cb c nc cc] w fun e w'=>(∃U vb vs,e=.returned (.agg #[U,vb,.int .i64 (nc:Int)])/\AJ w' w.heap.size U vb vs (bV A B nc))/\Ext w w':=by
 obtain⟨r1,r2,r3,r4,r5,r6⟩:=cQ h ok;subst r3;have y9:=(Ext.alloc w (bj a nb ca b nb cb c nc cc)).trans (Ext.alloc _ (.cells #[.slice none 0 0,.slice none 0 0,.int .i64 0] 116));obtain⟨W,hW⟩:=b9 ((w.alloc (bj a nb ca b nb cb c nc cc)).alloc (.cells #[.slice none 0 0,.slice none 0 0,.int .i64 0] 116));rw[<-hW]at y9;have y7:=ae y9;have H:=ae (h.ext y9);have HV:=ae (eJ H.o);rw[ok]at HV;have Af:=ae (show W.heap[w.heap.size+1]?=some (.cells #[.slice none 0 0,.slice none 0 0,.int .i64 0] 116 (0,0))by rw[hW];exact ai _ _ _ e8);have zf:=ae (show W.heap[w.heap.size]?=some (.cells #[.slice a nb ca,.slice b nb cb,.slice c nc cc] 68 (0,0))by rw[hW,aO _ _ _ e8];exact ai _ _ _ rfl);have CR:=ae (show W.heap.size=w.heap.size+1+1 by rw[hW];simp);have Mq:=h.a.l8;have Mp:=h.a.l9;have AS:=h.b.l8;have AD:=h.b.l9;have Ba:=h.c.l8;have CY:=h.c.l9;have CG:=ae h.a.hlen;have AO:=ae h.b.hlen;have Dj:=ae r4;have I7:=ae r5;have Mx:=ae r6;clear h y9 ok r4 r5 r6;go_enter Tryz.func190,Tryz.ntmps190
 go_upto_region 1 with fail;rw[<-hW];clear hW;have p0:=am zf.o;have p1:=aD zf.o;have p2:=aG zf.o;go_wp2_with fail;refine HV.o.mono ?_;rintro e I ⟨rfl,hx⟩;have X1:=ae hx;have H1:=ae (H.o.ext hx);clear hx p0 p1 p2;have P0:=ae (am (X1.o.blk zf.o));have P1:=ae (aD (X1.o.blk zf.o));have P2:=ae (aG (X1.o.blk zf.o));have p2:=P2.o;have DF:w.heap.size+1+1<=I.heap.size:=by have:=X1.o.size;have:=CR.o;omega
 obtain⟨E,hE⟩:=b9 (I.alloc (.cells #[.slice none 0 0,.slice none 0 0,.int .i64 (nc:Int)] 116));have XE:=ae (show Ext I E by rw[hE];exact Ext.alloc _ _)
 have ZT:=ae (show Dz E I.heap.size I.heap.size (.slice none 0 0) (.slice none 0 0) (nc:Int) [] [] []by
  rw[hE];exact⟨ai _ _ _ rfl,ao _,aaC _ _ _ 1,dJ.nil _ _,o4.nil _ _⟩)
 go_upto_region 4 with fail;rw[<-hE];clear hE p2;have p0:=XE.o.j9 P0.o;go_wp2_with fail
 go_loopg [23] nb (fun gk ii wr=>∃(k:Nat) (U vb:Value) (vs:List Value),b7 (gk+k=nb)/\ii=.int .i64 (k:Int)/\b7 (Dz wr I.heap.size I.heap.size U vb (nc:Int) vs ((List.range k).map (cL A B)) ((List.range k).map fun i=>((nc+i:Nat):Int)))/\b7 (Ext I wr))
 case atStart=>exact⟨0,_,_,_,ae e7,rfl,ZT,XE⟩
 case round =>
  obtain⟨g1,o7⟩:=b9 gk;subst o7;obtain⟨J,o5⟩:=b9 wr;subst o5;obtain⟨k,U,vb,vs,HK,rfl,T,HX⟩:=hrel;clear p0;have Rs:=HX.o.size;by_cases hlt:k<nb
  ·obtain⟨zb,zL,ya,yn,yc,Dp,AU,o8⟩:=(H1.o.ext HX.o).a.at hlt;subst Dp;obtain rfl:yn=nc:=by rw[<-o8.hlen];exact Dj.o k hlt
   have An:=o8.l8;have EU:=o8.l9;obtain⟨eb,zl,DT,AV⟩:=H1.o.b.at hlt;subst DT;obtain⟨O,H6⟩:=b9 (B[k]?.getD 0);rw[<-H6]at AV;have Sw:=ae AV;have HBK:=ae H6;have Bg:-5000<=O/\O<=5000:=by
    rw[H6,bk (by rw[AO.o];exact hlt)];exact Mx.o _ (vl _)
   obtain⟨hbb0,hbb1⟩:=Bg;obtain⟨G,Rt⟩:=b9 (BF O);have LR:=ae Rt;have Od:(O<0/\G=-1)∨(¬O<0/\G=1):=by rw[Rt];exact fR O
   have Ec:-1<=G/\G<=1:=by omega
   obtain⟨hsb0,hsb1⟩:=Ec;have p1:=HX.o.j9 P1.o;have Ed:=HX.o.j9 Sw.o;have CA:=ae o8;clear o8 H6 Rt AV
   go_upto_if 33 with fail
   go_cut [6] (fun s6 wx=>s6=.int .i64 G/\J=wx)
   case first =>
    rcases Od with⟨Du,rfl⟩|⟨Du,rfl⟩
    all_goals
     go_wp2_with fail;go_meet;exact⟨rfl,rfl⟩
   obtain⟨rfl,rfl⟩:=hcut;clear Od;have Tu:=ae (o0.made J J.heap.size (ao _));go_wp2_with fail
   go_loopg [7,37] yn (fun gk oo ii wr=>∃(j:Nat) (a1:j6) (n1 q1:Nat),b7 (gk+j=yn)/\ii=.int .i64 (j:Int)/\oo=.slice a1 n1 q1/\b7 (o0 wr J.heap.size (.slice a1 n1 q1) (((A[k]?.getD []).take j).map fun x=>(G*x,(1:Int))))/\b7 (Ext J wr))
   case atStart=>exact⟨0,_,_,_,ae e7,rfl,rfl,Tu,ae (Ext.alloc _ _)⟩
   case round =>
    obtain⟨g2,Am⟩:=b9 gk;subst Am;obtain⟨wr2,zx⟩:=b9 wr;subst zx;obtain⟨j,a1,n1,q1,HJ,rfl,rfl,zv,yZ⟩:=hrel;clear p1 Ed AU;by_cases Ca:j<yn
    ·obtain⟨xb,MI,SO,y9⟩:=(CA.o.ext yZ.o).at Ca;subst SO;obtain⟨x,hx⟩:=b9 ((A[k]?.getD [])[j]?.getD 0);rw[<-hx]at y9;have QD:=ae (show j<(A[k]?.getD []).length by rw[Dj.o k hlt];exact Ca);have Ri:-5000<=x/\x<=5000:=by
      rw[hx,bk QD.o];exact(I7.o k hlt).2 _ (vl _)
     obtain⟨hxb0,hxb1⟩:=Ri;have F8:G*x=x∨G*x=-x∨G*x=0:=by
      have:G=-1∨G=0∨G=1:=by omega
      rcases this with h1|h1|h1<;>subst h1<;>omega
     have K0:-5000<=G*x/\G*x<=5000:=by rcases F8 with h1|h1|h1<;>rw[h1]<;>omega
     obtain⟨z,hz⟩:=b9 (G*x);have NX:wrap64 (G*x)=z:=by rw[hz];unfold wrap64;omega
     have Bw:=ae (show((A[k]?.getD []).take j).map (fun x=>(G*x,(1:Int)))++[(z,1)]=((A[k]?.getD []).take (j+1)).map (fun x=>(G*x,(1:Int)))by
      rw[hz,hx];exact sV (fun x=>(G*x,(1:Int))) QD.o)
     have AN:=ae (show(((A[k]?.getD []).take j).map (fun x=>(G*x,(1:Int)))).length=j by rw[zo,FX];have:=QD.o;omega);clear hx hz F8 K0;go_wp2_with fail;rw[NX];clear NX;refine(cX z _).mono ?_;rintro e w3 ⟨rfl,hx⟩;have X3:=ae (yZ.o.trans hx);have zi:=ae (zv.o.ext hx);have F6:=X3.o.size;clear hx
     go_wp2_with (first
      | (at_builtin;refine aM rfl _ _ rfl J.heap.size (.slice a1 n1 q1) _ rfl (zi.o.ext (Ext.alloc _ _)) _ 1 _ [(z,1)] rfl (Rats.one' _ _ _ _ _ e8) (by rw[AN.o];omega) (by simp;omega) ?_;intro v5 w5 ho hg k9;have X5:=ae (ak (X3.o.trans (Ext.alloc _ _)) hg (fun j hj=>(zi.o.lt j hj).1));obtain⟨a5,n5,p5,rfl,CF⟩:=ho.var;have zW:=ae ho;clear ho hg k9))
     go_roundg (g2-1)
     case measure=>have:=HJ.o;omega
     case rel=>exact⟨j+1,a5,n5,p5,ae (j1 HJ.o),by go_num,rfl,ae (by rw[<-Bw.o];exact zW.o),X5⟩
    ·have Eo:yn=j:=by have:=HJ.o;omega
     have Dh:=ae (show o0 wr2 J.heap.size (.slice a1 n1 q1) ((A[k]?.getD []).map (fun x=>(G*x,(1:Int))))by
      have h1:=zv.o
      rw[p4 (by rw[Dj.o k hlt];omega)]at h1;exact h1)
     have KL:=ae (show((A[k]?.getD []).map (fun x=>(G*x,(1:Int)))).length=yn by rw[zo];exact Dj.o k hlt);have p0:=(HX.o.trans yZ.o).j9 P0.o;have HJN:=ae Eo;clear Eo;go_wp2_with fail
     go_loopg [7,52] nb (fun gk oo ii wr=>∃(i:Nat) (a1:j6) (n1 q1:Nat),b7 (gk+i=nb)/\ii=.int .i64 (i:Int)/\oo=.slice a1 n1 q1/\b7 (o0 wr J.heap.size (.slice a1 n1 q1) ((A[k]?.getD []).map (fun x=>(G*x,(1:Int)))++(List.range i).map fun i=>if i=k then((1:Int),(1:Int)) else(0,1)))/\b7 (Ext J wr))
     case atStart=>exact⟨0,_,_,_,ae e7,rfl,rfl,ae (by simpa using Dh.o),yZ⟩
     case round =>
      obtain⟨g3,D8⟩:=b9 gk;subst D8;obtain⟨Q,B4⟩:=b9 wr;subst B4;obtain⟨i,a3,n3,q3,HI,rfl,rfl,zi,zk⟩:=hrel;clear p0;by_cases DI:i<nb
      ·have AN:=ae (show((A[k]?.getD []).map (fun x=>(G*x,(1:Int)))++(List.range i).map fun i=>if i=k then((1:Int),(1:Int)) else(0,1)).length=yn+i by rw[pk,KL.o];simp);obtain⟨un,EJ⟩:∃u:Int,u=if i=k then 1 else 0:=⟨_,rfl⟩
       have Bw:=ae (show(List.range i).map (fun i=>if i=k then((1:Int),(1:Int)) else(0,1))++[(un,1)]=(List.range (i+1)).map fun i=>if i=k then((1:Int),(1:Int)) else(0,1)by
        rw[<-dm,EJ];congr 2;split<;>rfl)
       have Ow:((i:Int) == (k:Int))=decide (i=k):=by by_cases h:i=k<;>simp[h]<;>omega
       go_upto_if 57 with fail
       go_cut [11] (fun s11 wx=>s11=.int .i64 un/\Q=wx)
       case first =>
        by_cases LA:i=k
        ·have GY:un=1:=by rw[EJ,hI LA]
         have hd:decide (i=k)=true:=z' LA;rw[hd];subst GY;clear EJ LA Ow hd;go_wp2_with fail;go_meet;exact⟨rfl,rfl⟩
        ·have GY:un=0:=by rw[EJ,hD LA]
         have hd:decide (i=k)=false:=u' LA;rw[hd];subst GY;clear EJ LA Ow hd;go_wp2_with fail;go_meet;exact⟨rfl,rfl⟩
       obtain⟨rfl,rfl⟩:=hcut;clear EJ Ow;go_wp2_with fail;refine(cX un _).mono ?_;rintro e w3 ⟨rfl,hx⟩;have X3:=ae (zk.o.trans hx);have Ar:=ae (zi.o.ext hx);have F6:=X3.o.size;clear hx
       go_wp2_with (first
        | (at_builtin;refine aM rfl _ _ rfl J.heap.size (.slice a3 n3 q3) _ rfl (Ar.o.ext (Ext.alloc _ _)) _ 1 _ [(un,1)] rfl (Rats.one' _ _ _ _ _ e8) (by rw[AN.o];omega) (by simp;omega) ?_;intro v5 w5 ho hg k9;have X5:=ae (ak (X3.o.trans (Ext.alloc _ _)) hg (fun j hj=>(Ar.o.lt j hj).1));obtain⟨a5,n5,p5,rfl,CF⟩:=ho.var;have zW:=ae ho;clear ho hg k9))
       go_roundg (g3-1)
       case measure=>have:=HI.o;omega
       case rel=>exact⟨i+1,a5,n5,p5,ae (j1 HI.o),by go_num,rfl,ae (by have:=zW.o;rw[N7,Bw.o]at this;exact this),X5⟩
      ·have zU:i=nb:=by have:=HI.o;omega
       subst zU;obtain⟨z2,El⟩:=b9 (G*O);have F8:G*O=O∨G*O=-O∨G*O=0:=by
        have:G=-1∨G=0∨G=1:=by omega
        rcases this with h1|h1|h1<;>subst h1<;>omega
       have Qf:IntKind.i64.wrap (G*O)=z2:=by
        rw[cn,El];rcases F8 with h1|h1|h1<;>rw[h1]<;>omega
       have HRE:=ae (show((A[k]?.getD []).map (fun x=>(G*x,(1:Int)))++(List.range i).map fun i=>if i=k then((1:Int),(1:Int)) else(0,1))++[(z2,1)]=cL A B k by
        unfold cL;rw[<-HBK.o,<-LR.o,El,CG.o,ui])
       have AN:=ae (show((A[k]?.getD []).map (fun x=>(G*x,(1:Int)))++(List.range i).map fun i=>if i=k then((1:Int),(1:Int)) else(0,1)).length=yn+i by rw[pk,KL.o];simp);have AM:=ae (show vs.length=k by rw[T.o.rows.len];simp);have t0:=am T.o.box;have p1:=HX.o.j9 P1.o;have Ed:=HX.o.j9 Sw.o;have Fu:(0:Int)<=(k:Int):=by omega
       have BR:(k:Int)<(i:Int):=by omega
       clear El F8;go_upto_region 24 with fail;have EY:Ext Q Q.drew:=Ext.drew Q;have k7:Ext J Q.drew:=zk.o.trans EY;have k8:=ae (fun(w':World) (h:Ext J w')=>(⟨h.j9 t0,h.j9 p1,h.j9 Ed,HX.o.trans h⟩:w'.cell? ⟨I.heap.size,0,none⟩=some U/\w'.cell? ⟨w.heap.size,1,none⟩=some (.slice (some ⟨eb,zl,none⟩) i cb)/\w'.cell? ⟨eb,zl+k,none⟩=some (.int .i64 O)/\Ext I w'));refine dD (M:=[16]) (S:=fun w'=>w'.cell? ⟨I.heap.size,0,none⟩=some U/\w'.cell? ⟨w.heap.size,1,none⟩=some (.slice (some ⟨eb,zl,none⟩) i cb)/\w'.cell? ⟨eb,zl+k,none⟩=some (.int .i64 O)/\Ext I w') e9 ?_;have l7:=k8.o _ k7;refine lp 0 ?_;refine ll 1 ?_;refine lp 2 ?_;refine lp 3 ?_;refine lp 4 ?_;refine ll 5 ?_;refine lp 6 ?_;refine lp 7 ?_;refine ll 8 ?_;refine lp 9 ?_;refine bg (i:=10) (oi:=?_) ?_ ?_ ?_ (fun K hK=>?_);rotate_left
       ·simp only[gA,gB,gC];rfl
       ·kernel_rfl
       ·kernel_rfl
       go_simp;go_at_call 71;refine(cX _ _).mono ?_;rintro e w5 ⟨rfl,AK⟩;have EY:Ext Q w5:=EY.trans AK;have k7:Ext J w5:=k7.trans AK;have EK:=k7.size;go_wp2_with fail;refine hK.out _ _ (fun _=>k8.o _ k7) ?_;have l7:=k8.o _ k7;clear hK K
       try simp only[Act.put,sA,sB,sC]
       refine bg (i:=11) (oi:=?_) ?_ ?_ ?_ (fun K hK=>?_);rotate_left
       ·simp only[gA,gB,gC];rfl
       ·kernel_rfl
       ·kernel_rfl
       go_simp;refine hK.out _ _ (fun _=>k8.o _ (k7.trans (Ext.alloc _ _))) ?_;clear hK K
       try simp only[Act.put,sA,sB,sC]
       refine bg (i:=12) (oi:=?_) ?_ ?_ ?_ (fun K hK=>?_);rotate_left
       ·simp only[gA,gB,gC];rfl
       ·kernel_rfl
       ·kernel_rfl
       refine dr _ _ j0 J.heap.size (.slice a3 n3 q3) _ j0 ((zi.o.ext EY).ext (Ext.alloc _ _)) _ 1 _ [(z2,1)] j0 (Rats.one' _ _ _ _ _ rfl) (by rw[AN.o];omega) (by simp;omega) ?_;intro v6 w6 ho hg k9;obtain⟨a6,n6,q6,rfl,H'⟩:=ho.var;have Cf:=ae ho;have Hb:Ext J w6:=ak (k7.trans (Ext.alloc _ _)) hg (fun j hj=>(zi.o.lt j hj).1);have hs6:=Hb.size;clear ho hg k9;refine hK.out _ _ (fun _=>k8.o _ Hb) ?_;have l7:=k8.o _ Hb;clear hK K
       try simp only[Act.put,sA,sB,sC]
       refine bg (i:=13) (oi:=?_) ?_ ?_ ?_ (fun K hK=>?_);rotate_left
       ·simp only[gA,gB,gC];rfl
       ·kernel_rfl
       ·kernel_rfl
       go_simp;refine hK.out _ _ (fun _=>k8.o _ (Hb.trans (Ext.alloc _ _))) ?_;clear hK K
       try simp only[Act.put,sA,sB,sC]
       refine bg (i:=14) (oi:=?_) ?_ ?_ ?_ (fun K hK=>?_);rotate_left
       ·simp only[gA,gB,gC];rfl
       ·kernel_rfl
       ·kernel_rfl
       refine eZ _ _ j0 I.heap.size U vs j0 ((T.o.a.ext Hb).ext (Ext.alloc _ _)) _ _ 1 j0 (by simp;rfl) rfl (by rw[AM.o];omega) (by simp;omega) ?_;intro v7 w7 ho hg k9;obtain⟨a7,n7,q7,rfl,H9⟩:=ho.var;have IJ:=ae ho;have PZ:=ae hg;have BH:=T.o.Kz (Hb.trans (Ext.alloc _ _)) hg;have Qp:=am BH;have cf7:=dp BH;have GD:Ext I w7:=ak ((HX.o.trans Hb).trans (Ext.alloc _ _)) hg (fun j hj=>(T.o.a.lt j hj).1);clear ho hg k9 BH;refine hK.out _ _ (fun _=>JH Qp (JH (GD.j9 P1.o) (JH (GD.j9 Sw.o) GD))) ?_;have l7:=JH Qp (JH (GD.j9 P1.o) (JH (GD.j9 Sw.o) GD));clear hK K
       try simp only[Act.put,sA,sB,sC]
       refine lp 15 ?_;refine dM (i:=16) (oi:=?_) (w':=?_) ?_ ?_ ?_ ?_ ?_ ?_ ?_;rotate_left 2
       ·simp only[gA,gB,gC];rfl
       ·kernel_rfl
       ·kernel_rfl
       ·exact EE e9
       ·rfl
       ·go_simp;(try with_reducible rfl)
       try simp only[Act.put,sA,sB,sC]
       refine dV e9 ?_ _;have Z:=ae (T.o.FV (Hb.trans (Ext.alloc _ _)) (Cf.o.ext (Ext.alloc _ _)) Rs PZ.o IJ.o);have PB:=ae (GD.setCell (p:=⟨I.heap.size,0,none⟩) (ao _) (.slice a7 n7 q7));obtain⟨W8,U8⟩:=b9 (w7.setCell ⟨I.heap.size,0,none⟩ (.slice a7 n7 q7));rw[<-U8]at Z PB;go_upto_region 25 with fail;rw[<-U8];clear U8 Qp cf7 l7;have b1:=aD Z.o.box;have b2:=aG Z.o.box;have bf:=dp Z.o.box;have hl8:=mr Z.o.box;have Eg:=ae (show((List.range k).map fun i=>((yn+i:Nat):Int)).length=k by simp)
       go_wp2_with (first
        | (at_builtin;refine bu rfl _ _ rfl I.heap.size vb _ rfl (Z.o.b.ext (Ext.alloc _ _)) _ 1 _ [(yn:Int)+(k:Int)] rfl (Ints.CL _ _ _ _ e8) (by rw[Eg.o];omega) (by simp;omega) ?_;intro v9 w9 ho hg k9;obtain⟨a9,n9,q9,rfl,PS⟩:=ho.var;have FR:=ae ho;have PY:=ae hg;have BH:=Z.o.LI (Ext.alloc _ _) hg;have c09:=aD BH;have WO:=dp BH;have U5:Ext I w9:=ak (Ext.trans PB.o (Ext.alloc _ _)) hg (fun j hj=>(Z.o.b.lt j hj).1);clear ho hg k9 BH))
       have KF:=ae (Z.o.pushB (Ext.alloc _ _) PY.o FR.o);have IB:=ae (U5.setCell (p:=⟨I.heap.size,1,none⟩) (ao _) (.slice a9 n9 q9))
       go_roundg (g1-1)
       case measure=>have:=HK.o;omega
       case rel=>exact⟨k+1,_,_,_,ae (j1 HK.o),by go_num,ae (by
        have h1:=KF.o;rw[HRE.o,dm]at h1;have h2:((List.range k).map fun i=>((yn+i:Nat):Int))++[(yn:Int)+(k:Int)]=(List.range (k+1)).map fun i=>((yn+i:Nat):Int):=by
         rw[<-dm];simp
        rw[h2]at h1
        exact h1),IB⟩
  ·have zQ:nb=k:=by have:=HK.o;omega
   subst zQ;have J4:=ae (show AJ J I.heap.size U vb vs (bV A B nc)by have:=T.o.own;unfold bV;rw[CG.o];exact this);have t0:=am T.o.box;have t1:=aD T.o.box;have t2:=aG T.o.box;obtain⟨a7,n7,c7,rfl,H9⟩:=T.o.a.var;obtain⟨a8,n8,c8,rfl,IL⟩:=T.o.b.var;have xw:=X1.o.trans HX.o;have r0:=am (xw.blk Af.o);have r1:=aD (xw.blk Af.o);have r2:=aG (xw.blk Af.o);have rf:=dp (xw.blk Af.o);have XW:=ae xw;clear xw;go_wp2_with fail;refine bR (v:=.agg #[.slice a7 n7 c7,.slice a8 n8 c8,.int .i64 (nc:Int)]) (by simp[results,Tryz.results190,go_sem,r0,r1,r2,rf]) rfl ⟨⟨_,_,vs,rfl,?_⟩,(y7.o.trans XW.o).CH (Cj _) _ _ _⟩;exact(J4.o.AL fun k hk=>dd _ _ _ _ _ _ e7).mono e7
end
