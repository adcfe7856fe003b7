import Derived.Test.YtooiaklfmodcbaaGreatDoorRtAllG20
set_option linter.all false
set_option maxHeartbeats 6000000
set_option maxRecDepth 100000
namespace Go.Proofs.YtooiaklfmodcbaaGreatDoor
open Ending renaming returned->ar
open List renaming length->JL
open Obj renaming cells->QD
open Value renaming slice->GI,bool->bl,string->aE,pointer->aP
open Go.RowKit Go.Proofs.Tryz
variable{σ:Prop}
section
def ck{P Q:Prop}(k:p9 Q)(h:p9 Q->P:=by intro k;refine tk 18 ?_;refine tk 19 ?_;refine tk 20 ?_;exact k.1):P:=h k
def Xd{P Q:Prop}(k:p9 Q)(h:p9 Q->P:=by intro k;refine tk 14 ?_;refine tk 15 ?_;refine tk 16 ?_;refine tk 17 ?_;exact k.1):P:=h k
def gn{P Q:Prop}(k:p9 Q)(h:p9 Q->P:=by intro k;refine tk 4 ?_;refine tk 5 ?_;refine tk 6 ?_;refine tk 7 ?_;refine tk 8 ?_;refine tk 9 ?_;refine tk 10 ?_;exact k.1):P:=h k
def tc{H G A2 A3 A4 A5 A6 A7 E P:Prop}(a0:H)(a1:G)(a2:A2)(a3:A3)(a4:A4)(a5:A5)(Z:A6)(Q:A7)(K:E)(h:b9 H->b9 G->b9 A2->b9 A3->b9 A4->b9 A5->b9 A6->b9 A7->b9 E->P):P:=h a0 a1 a2 a3 a4 a5 Z Q K
def Sh{G E A2 A3 A4 A5 A6 A7 P:Prop}(a0:G)(a1:E)(a2:A2)(a3:A3)(Z:A4)(Q:A5)(K:A6)(H:A7)(h:b9 G->b9 E->b9 A2->b9 A3->b9 A4->b9 A5->b9 A6->b9 A7->P):P:=h a0 a1 a2 a3 Z Q K H
def P7(h:σ:=by first|with_reducible exact Hd.rats|with_reducible exact(Hd.ext WU).rats):σ:=h
def A3(h:σ:=by first|with_reducible exact EV.ints|with_reducible exact(EV.ext WU).ints):σ:=h
def Jf(h:σ:=by have:=LD.out;have:=HCL.o;have:=Hc.o;omega):σ:=h
variable{A:l8}{W:J}
section
variable{w:J}{a:l9}{na ca:Nat}{b:l9}{nb cb:Nat}{c:l9}{nc cc:Nat}{A:l8}{B:o3}{C:l7}
theorem dI(h:Kh w a na ca b nb cb c nc cc A B C)(ok:Ej A B C=true):nc<=70/\na<=8/\nb=na/\(∀i,i<na->JL (A[i]?.getD [])=nc)/\(∀i,i<na->JL (A[i]?.getD [])<=70/\∀x∈A[i]?.getD [],-5000<=x/\x<=5000)/\∀x∈B,-5000<=x/\x<=5000:=by
 have l1:=h.a.hlen;have l2:=h.b.hlen;have l3:=h.c.hlen;rw[lP]at ok;simp only[eI,ef,gy,eR,A4]at ok;obtain⟨h1,h2,h3,h4,H,G⟩:=ok;have E:∀i,i<na->JL (A[i]?.getD [])=nc/\∀x∈A[i]?.getD [],-5000<=x/\x<=5000:=by
  intro i hi;rw[Id j0,Nm];have:=H _ (eN (l:=A) (n:=i) j0);exact⟨by omega,this.2⟩
 exact⟨by omega,by omega,by omega,λi hi=>(E i hi).1,λi hi=>⟨by have:=(E i hi).1;omega,(E i hi).2⟩,G⟩
theorem nX(h:Kh w a na ca b nb cb c nc cc A B C){xa:l9}{xn Nv:Nat}{X:l7}(hX:i6 w xa xn Nv X):
 f8 275 #[Ig a na ca b nb cb c nc cc,GI xa xn Nv] w (bl (Ej A B C&&eO A B (JL C) X)):=by
 have B8:=C7.alloc w (bT a na ca b nb cb c nc cc);refine ns B8 (h.ext B8) (hX.ext B8) h.c.hlen h.a.hlen λX2 H Ir Hk Hc=>?_;have⟨Eu,GU⟩:=h.c.aq9;have HO:=I (λok=>dI h ok);have Z:=I (fB H);clear h hX B8;cases K:Ej A B C
 ·rw[K]at Z;clear K;unfold f8;go_in
  go_wp2_with fail;refine IR Z λG hx=>?_;exact P3
 rw[K]at Z;have aa:=I (HO K);obtain⟨r1,r2,r3,_,_,_⟩:=HO.o K;subst r3;have HN:=I (λ(w':J) (hx:C7 (w.alloc (bT a nb ca b nb cb c nc cc)) w')=>mZ (Ir.ext hx) nc);have HR:=I (show(true&&eO A B (JL C) X)=((decide (JL X=nc)&&J3 X)&&em A X B)by unfold eO;rw[Hk.o,y6,Bool.and_assoc]);clear K;cases hn:(decide (JL X=nc)&&J3 X)
 ·rw[hn]at HN HR;clear hn;unfold f8;go_in
  go_wp2_with fail;refine i7 Z λG X3=>?_;have E:G.cell? (O w 2)=some (GI c nc cc):=X3.o6 j7;go_wp2_with fail;refine i7 (HN _ X3) λw2 hx=>?_;have X1:=I ((X2.trans X3).trans hx);have qq0:=@ag;exact b8
 rw[hn]at HN HR;clear hn;unfold f8;go_in
 go_wp2_with fail;refine i7 Z λG hx=>?_;have Q:G.cell? (O w 0)=some (GI a nb ca):=hx.o6 j7;have SH:G.cell? (O w 1)=some (GI b nb cb):=hx.o6 j7;have E:G.cell? (O w 2)=some (GI c nc cc):=hx.o6 j7;have X3:=I hx;go_wp2_with fail;refine i7 (HN _ X3) λw2 hx=>?_;replace Q:=hx.o6 Q;replace SH:=hx.o6 SH;replace E:=hx.o6 E;have X1:=I (X3.trans hx);have HG:=I (zw (b:=b) (nb:=nb) (cb:=cb) (c:=c) (nc:=nc) (cc:=cc) (H.ext X1).a (Ir.ext X1) (H.ext X1).b (i8 _) aa.2.2.2.2.1);go_wp2_with fail;refine i7 HG λw3 hx=>?_;have ab:=I ((X2.trans X1).trans hx);go_wp2;go_ret;exact⟨ag (by rw[HR.o];rfl),ab⟩
end
structure R1(w:J)(xa:l9)(xn xc:Nat)(ya:l9)(yn yc:Nat)(ra:l9)(rn rc:Nat)(r:G9):Prop where
 x:i6 w xa xn xc r.X
 y:i6 w ya yn yc r.Y
 IJ:i6 w ra rn rc r.IJ
theorem R1.ext{w w':J}{xa:l9}{xn xc:Nat}{ya:l9}{yn yc:Nat}{ra:l9}{rn rc:Nat}{r:G9}(h:R1 w xa xn xc ya yn yc ra rn rc r)(hx:C7 w w'):R1 w' xa xn xc ya yn yc ra rn rc r:=⟨h.x.ext hx,h.y.ext hx,h.IJ.ext hx⟩
abbrev H8(r:G9)(xa:l9)(xn xc:Nat)(ya:l9)(yn yc:Nat)(ra:l9)(rn rc:Nat):arQ :=
 .agg #[.int .i64 r.status,GI xa xn xc,GI ya yn yc,GI ra rn rc,.int .i64 r.value.1,.int .i64 r.value.2,.int .i64 r.Rw]
abbrev cZ(r:G9)(xa:l9)(xn xc:Nat)(ya:l9)(yn yc:Nat)(ra:l9)(rn rc:Nat):Obj :=
 QD #[.int .i64 r.status,GI xa xn xc,GI ya yn yc,GI ra rn rc,.int .i64 r.value.1,.int .i64 r.value.2,.int .i64 r.Rw] 109
theorem jJ(h:∀i,i<JL A->∀x∈A[i]?.getD [],-5000<=x/\x<=5000)(j:Nat):∀x∈El A j,-5000<=x/\x<=5000:=by
 intro x hx;obtain⟨r,hr,rfl⟩:=C'.1 hx;obtain⟨i,hi,rfl⟩:=Yi.1 hr;by_cases E:j<A[i].length
 ·rw[Id E];exact h i hi _ (by rw[Id hi];exact eN _)
 rw[q8 j0];simp
theorem pQ(A:l8)(j:Nat):JL (El A j)=JL A:=by simp[El]
theorem yD{Y C:l7}{j:Nat}(h:DZ Y (aG (El A j))=none):az A Y C j=false:=by unfold az;rw[h]
theorem yE{Y C:l7}{j:Nat}{v c:o4}(h:DZ Y (aG (El A j))=some v)(hc:C[j]?.getD (0,0)=c):az A Y C j=((D9 c v).2&&decide (0<=(D9 c v).1.1)):=by unfold az;rw[h,hc]
def mA(x y:Option (Int×Int))(v:o4):Bool:=match x,y with|some x,some y=>decide (x=y)&&decide (x=v)|_,_=>false
theorem xg(B:o3)(C:l7)(r:G9):jP B C r=mA (DZ C r.X) (DZ r.Y (aG B)) r.value:=rfl
theorem mB(x:Option (Int×Int))(v:o4):mA none x v=false/\mA x none v=false:=by cases x<;>exact⟨rfl,rfl⟩
theorem rF(G E K H v1 v2:Int):mA (some (G,E)) (some (K,H)) (v1,v2)=(((G == K)&&(E == H))&&((G == v1)&&(E == v2))):=by
 simp only[mA];rw[yy];simp
section
variable{w:J}{a:l9}{na ca:Nat}{b:l9}{nb cb:Nat}{c:l9}{nc cc:Nat}{A:l8}{B:o3}{C:l7}
 {xa:l9} {xn xc:Nat} {ya:l9} {yn yc:Nat} {ra:l9} {rn rc:Nat} {r:G9}
structure nf(w W:J)(a:l9)(na ca:Nat)(b:l9)(nb cb:Nat)(c:l9)(nc cc:Nat)(xa:l9)(xn xc:Nat)(ya:l9)(yn yc:Nat)(ra:l9)(rn rc:Nat)(r:G9)(A:l8)(B:o3)(C:l7):Prop where
 ext:C7 ((w.alloc (bT a na ca b nb cb c nc cc)).alloc (cZ r xa xn xc ya yn yc ra rn rc)) W
 lp:Kh W a na ca b nb cb c nc cc A B C
 lr:R1 W xa xn xc ya yn yc ra rn rc r
theorem nf.zero(h:Kh w a na ca b nb cb c nc cc A B C)(E:R1 w xa xn xc ya yn yc ra rn rc r):nf w ((w.alloc (bT a na ca b nb cb c nc cc)).alloc (cZ r xa xn xc ya yn yc ra rn rc)) a na ca b nb cb c nc cc xa xn xc ya yn yc ra rn rc r A B C :=
 ⟨WF,(h.ext WU).ext WU,(E.ext WU).ext WU⟩
theorem nf.grow{W W':J}(h:nf w W a na ca b nb cb c nc cc xa xn xc ya yn yc ra rn rc r A B C)(hx:C7 W W'):nf w W' a na ca b nb cb c nc cc xa xn xc ya yn yc ra rn rc r A B C:=⟨h.ext.trans hx,h.lp.ext hx,h.lr.ext hx⟩
theorem nf.all{W:J}(h:nf w W a na ca b nb cb c nc cc xa xn xc ya yn yc ra rn rc r A B C):C7 w W:=(WU.trans WU).trans h.ext
theorem nf.p{W:J}(h:nf w W a na ca b nb cb c nc cc xa xn xc ya yn yc ra rn rc r A B C):W.cell? (O w 0)=some (GI a na ca)/\W.cell? (O w 1)=some (GI b nb cb)/\W.cell? (O w 2)=some (GI c nc cc) :=
 ⟨h.ext.o6 j7,h.ext.o6 j7,h.ext.o6 j7⟩
theorem nf.q{W:J}(h:nf w W a na ca b nb cb c nc cc xa xn xc ya yn yc ra rn rc r A B C):W.cell? (O (w+1) 0)=some (U r.status)/\W.cell? (O (w+1) 1)=some (GI xa xn xc)/\W.cell? (O (w+1) 2)=some (GI ya yn yc)/\W.cell? (O (w+1) 3)=some (GI ra rn rc)/\W.cell? (O (w+1) 4)=some (U r.value.1)/\W.cell? (O (w+1) 5)=some (U r.value.2) :=
 ⟨h.ext.o6 j7,h.ext.o6 j7,h.ext.o6 j7,h.ext.o6 j7,h.ext.o6 j7,h.ext.o6 j7⟩
def IA(h:σ:=by
 go_wp2;go_ret;exact⟨ag (by rw[HE.o];rfl),T2.all⟩
 ):σ:=h
def da(h:σ:=by
 exact⟨0,I j0,rfl,I rfl,T2⟩
 ):σ:=h
theorem AH(h:Kh w a na ca b nb cb c nc cc A B C)(h':R1 w xa xn xc ya yn yc ra rn rc r)(ok:Ej A B C=true)(hs:r.status=1):
 f8 201 #[Ig a na ca b nb cb c nc cc,H8 r xa xn xc ya yn yc ra rn rc] w (bl (aQ az A B C r)):=by
 have⟨r1,r2,r3,r4,r5,r6⟩:=dI h ok;subst r3;have T0:=I (nf.zero h h');have⟨EN,KG⟩:=h'.y.aq9;have⟨Eu,GU⟩:=h.c.aq9;have⟨E6,Ew⟩:=h.b.aq9;refine Sh h.c.hlen h.b.hlen h.a.hlen h'.y.hlen (show aQ az A B C r=(eO A B (JL C) r.X&&(decide (JL r.Y=JL B)&&((List.range (JL C)).all (az A r.Y C)&&jP B C r)))by unfold aQ;rw[f9 hs]) r4 (λj=>jJ (A:=A) (λi hi=>(r5 i (k8 h.a.hlen)).2) j) r6 λHk FN Hc Rm HE IL Qh I2=>?_;obtain⟨st,Z,H,rr,rv,rp⟩:=r;obtain⟨v1,v2⟩:=rv;simp only at hs HE Rm;subst hs;have HV:=I (fB T0.lp);rw[ok]at HV;clear h h' r4 r5 r6;have Sk:=I (λ(W:J) (t:nf w W a nb ca b nb cb c nc cc xa xn xc ya yn yc ra rn rc ⟨1,Z,H,rr,(v1,v2),rp⟩ A B C)=>nX t.lp t.lr.x);rw[ok]at Sk;simp only[y6]at Sk;cases hf:eO A B (JL C) Z
 ·rw[hf]at Sk HE;clear hf;unfold f8;go_in
  go_wp2_with fail;refine i7 HV λw1 hx=>?_;have T1:=I (T0.grow hx);have⟨p0,K,p2⟩:=T1.p;have⟨q0,q1,q2,q3,q4,q5⟩:=T1.q;go_wp2_with fail;refine i7 (Sk _ T1) λw2 hx=>?_;have T2:=I (T1.grow hx);exact IA
 rw[hf]at Sk HE;clear hf;by_cases Na:yn=nb
 ·subst Na;have PA:((yn:Int) != (yn:Int))=false:=by simp
  have GB:=I (show aQ az A B C ⟨1,Z,H,rr,(v1,v2),rp⟩=((List.range nc).all (az A H C)&&jP B C ⟨1,Z,H,rr,(v1,v2),rp⟩)by rw[HE.o,Rm.o,FN.o,Hk.o,UV rfl];rfl);unfold f8;go_in
  go_wp2_with fail;refine i7 HV λw1 hx=>?_;have T1:=I (T0.grow hx);have⟨p0,K,p2⟩:=T1.p;have⟨q0,q1,q2,q3,q4,q5⟩:=T1.q;go_wp2_with fail;refine i7 (Sk _ T1) λw2 hx=>?_;have T2:=I (T1.grow hx);clear p0 K p2 q0 q1 q2 q3 q4 q5;have⟨p0,K,p2⟩:=T2.p;have⟨q0,q1,q2,q3,q4,q5⟩:=T2.q;go_wp2
  go_loopg [46] nc (λgk ii wr=>∃k:Nat,b9 (gk+k=nc)/\ii=U k/\b9 ((List.range k).all (az A H C)=true)/\b9 (nf w wr a yn ca b yn cb c nc cc xa xn xc ya yn yc ra rn rc ⟨1,Z,H,rr,(v1,v2),rp⟩ A B C))
  ·exact da
  obtain⟨k,HK,rfl,HA,T⟩:=hrel;clear p0 K p2 q0 q1 q2 q3 q4 q5;by_cases hlt:k<nc
  ·have⟨zb,ED,cx,cy,JA,Eo,F8,Li⟩:=T.lp.c.at hlt;subst JA;have Lv:=I Eo;clear Eo;have⟨E,hE⟩:=e9 (wr.alloc (QD #[U cx,U cy] 56));have Gg:C7 wr E:=by rw[hE];exact WU
   have TE:=I (T.grow Gg);have Ko:=I (show ah wr E wr cx cy by rw[hE];exact ah.new WF _ _);go_upto_region 10 with fail;rw[<-hE];clear hE Gg F8 Li;have⟨p0,K,p2⟩:=TE.p;have⟨q0,q1,q2,q3,q4,q5⟩:=TE.q;have HCL:=I (pQ A k);have⟨dv,JX⟩:=e9 (DZ H (aG (El A k)));have QS:=I JX.symm;obtain⟨d1,d2,MU,hdd⟩:∃x y ok,Ex dv=((x,y),ok):=⟨_,_,_,rfl⟩;have Km:=I hdd;have QL:b9 (eS (El A k)=aG (El A k)):=gG (Qh k);clear JX hdd;go_upto_region 10 with fail
   go_cut [7,8] (λsx so wx=>∃g:Nat,sx=aP (some (O g 0))/\so=bl MU/\b9 (ah E wx g d1 d2))
   case first =>
    have o7:=C7.drew E;have D0:C7 E (E.alloc (QD #[U 0,U 0] 56)).drew:=WU.trans cn;have o8:=I (λ(w':J) (h:C7 E w')=>(an (h.o6 p0) (an (h.o6 K) (an (h.o6 p2) (an (h.o6 q2) h)))))
    go_region_held3 (λw'=>w'.cell? (O w 0)=some (GI a yn ca)/\w'.cell? (O w 1)=some (GI b yn cb)/\w'.cell? (O w 2)=some (GI (some (O zb ED)) nc cc)/\w'.cell? (O (w+1) 2)=some (GI ya yn yc)/\C7 E w')
     (exact Hz)
     (first
       | ((with_reducible refine(wH (b:=b) (nb:=yn) (cb:=cb) (c:=some (O zb ED)) (nc:=nc) (cc:=cc) (TE.o.lp.a.ext Mt) IL.o hlt j0 j0).mono ?_)
          rintro e w3 ⟨⟨v3,rfl,EV⟩,C6⟩;obtain⟨a3,n3,c3,rfl,LD⟩:=EV.var
          first|(with_reducible have A1:=ah.grow A1 C6)|(with_reducible have A1:=ah.DS C6)|(with_reducible have A1:=ah.DX o7 C6)|skip
          first|(have IX:=A1.c0;have IW:=A1.c1;have Kf:=A1.free)|skip
          have o7:C7 E w3:=ZC;have FB:=o7.size)
       | ((with_reducible refine(jv A3 Jf).mono ?_)
          rw[QL.o];rintro e w4 ⟨⟨v4,rfl,Hd⟩,DP⟩;obtain⟨a4,n4,c4,rfl,Oj⟩:=Hd.var
          first|(with_reducible have A1:=ah.grow A1 DP)|(with_reducible have A1:=ah.DS DP)|(with_reducible have A1:=ah.DX o7 DP)|skip
          first|(have IX:=A1.c0;have IW:=A1.c1;have Kf:=A1.free)|skip
          have o7:C7 E w4:=Zi;have FB:=o7.size)
       | ((with_reducible refine(im (TE.o.lr.y.ext Mt) P7).mono ?_)
          rw[QS.o,Km.o];rintro e w5 ⟨rfl,B0⟩
          first|(with_reducible have A1:=ah.grow A1 B0)|(with_reducible have A1:=ah.DS B0)|(with_reducible have A1:=ah.DX o7 B0)|skip
          first|(have IX:=A1.c0;have IW:=A1.c1;have Kf:=A1.free)|skip
          have o7:C7 E w5:=XG;have FB:=o7.size))
    all_goals(exact Jm)
   obtain⟨g,rfl,rfl,Ee⟩:=hcut;have Fy:=I (Ko.grow Ee.ext);have TW:=I (TE.grow Ee.ext);clear p0 K p2 q0 q1 q2 q3 q4 q5;have c0:=Fy.c0;have c1:=Fy.c1;have g0:=Ee.c0;have g1':=Ee.c1;obtain⟨l1,l2,lok,PD⟩:∃x y ok,D9 (cx,cy) (d1,d2)=((x,y),ok):=⟨_,_,_,rfl⟩;have Yh:=I (ml cx cy d1 d2 wc);rw[PD]at Yh;have EW:=I PD;clear PD;go_wp2_with fail;refine i7 Yh λw6 hx=>?_;have X2:=I ((TW.grow hx).grow (C7.alloc _ (QD #[U l1,U l2] 56)));cases dv with
   | none =>
     have Kd:MU=false:=by have:=Km.o;simp only[Ex]at this;simpa using (If Prod.snd this).symm
     subst Kd;have HF:=I (show aQ az A B C ⟨1,Z,H,rr,(v1,v2),rp⟩=false by rw[GB.o,eh hlt (yD QS)];rfl);go_wp2;go_ret;exact⟨ag HF.symm,X2.all⟩
   | some dvv =>
     have Kd:MU=true:=by have:=Km.o;simp only[Ex]at this;simpa using (If Prod.snd this).symm
     have LZ:dvv=(d1,d2):=by have:=Km.o;simp only[Ex]at this;simpa using If Prod.fst this
     subst Kd LZ;have O':=I (show az A H C k=(lok&&decide (0<=l1))by rw[yE QS.o Lv.o,EW.o]);cases lok
     ·have HF:=I (show aQ az A B C ⟨1,Z,H,rr,(v1,v2),rp⟩=false by rw[GB.o,eh hlt (by rw[O'.o];rfl)];rfl);go_wp2;go_ret;exact⟨ag HF.symm,X2.all⟩
     by_cases hl0:l1<0
     ·have HF:=I (show aQ az A B C ⟨1,Z,H,rr,(v1,v2),rp⟩=false by rw[GB.o,eh hlt (by rw[O'.o,Ok j0];rfl)];rfl);go_wp2;go_ret;exact⟨ag HF.symm,X2.all⟩
     have HT:=I (show(List.range (k+1)).all (az A H C)=true by rw[jq,HA.o,O'.o,UV j0];rfl);exact W2
  have DV:nc=k:=k8 HK.o;subst DV;have Pr:=I (show aQ az A B C ⟨1,Z,H,rr,(v1,v2),rp⟩=jP B C ⟨1,Z,H,rr,(v1,v2),rp⟩by rw[GB.o,HA.o];rfl);have⟨p0,K,p2⟩:=T.p;have⟨q0,q1,q2,q3,q4,q5⟩:=T.q;have⟨dx,P9⟩:=e9 (DZ C Z);have⟨dy,RS⟩:=e9 (DZ H (aG B));have HM:=I (show jP B C ⟨1,Z,H,rr,(v1,v2),rp⟩=mA dx dy (v1,v2)by rw[xg,P9,RS]);obtain⟨x1,x2,YF,P5⟩:∃x y ok,Ex dx=((x,y),ok):=⟨_,_,_,rfl⟩;obtain⟨y1,y2,Pu,V1⟩:∃x y ok,Ex dy=((x,y),ok):=⟨_,_,_,rfl⟩;refine Op P5 V1 (im T.lp.c T.lr.x) RS.symm λIr Qa Rp YC=>?_;rw[<-P9,P5]at Rp;have DO:b9 (eS B=aG B):=gG I2;clear P9 RS P5 V1;go_wp2_with fail;refine i7 Rp λw3 hx=>?_;clear p0 K p2 q0 q1 q2 q3 q4 q5;have⟨E,hE⟩:=e9 (w3.alloc (QD #[U x1,U x2] 56));have Gg:C7 w3 E:=by rw[hE];exact WU
  have TE:=I ((T.grow hx).grow Gg);have Ko:=I (show ah w3 E w3 x1 x2 by rw[hE];exact ah.new WF _ _);go_upto_region 16 with fail;rw[<-hE];clear hE Gg;have⟨p0,K,p2⟩:=TE.p;have⟨q0,q1,q2,q3,q4,q5⟩:=TE.q;go_upto_region 16 with fail
  go_cut [13,14] (λsx so wx=>∃g:Nat,sx=aP (some (O g 0))/\so=bl Pu/\b9 (ah E wx g y1 y2))
  case first =>
   have o7:=C7.drew E;have D0:C7 E (E.alloc (QD #[U 0,U 0] 56)).drew:=WU.trans cn;have o8:=I (λ(w':J) (h:C7 E w')=>(an (h.o6 K) (an (h.o6 q2) h)))
   go_region_held3 (λw'=>w'.cell? (O w 1)=some (GI b yn cb)/\w'.cell? (O (w+1) 2)=some (GI ya yn yc)/\C7 E w')
    (exact Hz)
    (first
      | ((with_reducible refine(jv (TE.o.lp.b.ext Mt) j0).mono ?_)
         rw[DO.o];rintro e w4 ⟨⟨v4,rfl,Hd⟩,DP⟩;obtain⟨a4,n4,c4,rfl,Oj⟩:=Hd.var
         first|(with_reducible have A1:=ah.grow A1 DP)|(with_reducible have A1:=ah.DS DP)|(with_reducible have A1:=ah.DX o7 DP)|skip
         first|(have IX:=A1.c0;have IW:=A1.c1;have Kf:=A1.free)|skip
         have o7:C7 E w4:=Zi;have FB:=o7.size)
      | ((with_reducible refine(im (TE.o.lr.y.ext Mt) P7).mono ?_)
         rw[YC.o,Qa.o];rintro e w5 ⟨rfl,B0⟩
         first|(with_reducible have A1:=ah.grow A1 B0)|(with_reducible have A1:=ah.DS B0)|(with_reducible have A1:=ah.DX o7 B0)|skip
         first|(have IX:=A1.c0;have IW:=A1.c1;have Kf:=A1.free)|skip
         have o7:C7 E w5:=XG;have FB:=o7.size))
   all_goals(exact Jm)
  obtain⟨g,rfl,rfl,Ee⟩:=hcut;have Fy:=I (Ko.grow Ee.ext);have TW:=I (TE.grow Ee.ext);clear p0 K p2 q0 q1 q2 q3 q4 q5;have⟨p0,K,p2⟩:=TW.p;have⟨q0,q1,q2,q3,q4,q5⟩:=TW.q;have c0:=Fy.c0;have c1:=Fy.c1;have g0:=Ee.c0;have g1':=Ee.c1;cases dx with
  | none =>
    have Kd:YF=false:=by have:=Ir.o;simp only[Ex]at this;simpa using (If Prod.snd this).symm
    subst Kd;go_wp2;go_ret;exact⟨ag (by rw[Pr.o,HM.o,(mB _ _).1]),TW.all⟩
  | some xv =>
    have Kd:YF=true:=by have:=Ir.o;simp only[Ex]at this;simpa using (If Prod.snd this).symm
    have LZ:xv=(x1,x2):=by have:=Ir.o;simp only[Ex]at this;simpa using If Prod.fst this
    subst Kd LZ;cases dy with
    | none =>
      have Kd:Pu=false:=by have:=Qa.o;simp only[Ex]at this;simpa using (If Prod.snd this).symm
      subst Kd;go_wp2;go_ret;exact⟨ag (by rw[Pr.o,HM.o,(mB _ _).2]),TW.all⟩
    | some yv =>
      have Kd:Pu=true:=by have:=Qa.o;simp only[Ex]at this;simpa using (If Prod.snd this).symm
      have LZ:yv=(y1,y2):=by have:=Qa.o;simp only[Ex]at this;simpa using If Prod.fst this
      subst Kd LZ;have O1:=I (show aQ az A B C ⟨1,Z,H,rr,(v1,v2),rp⟩=(((x1 == y1)&&(x2 == y2))&&((x1 == v1)&&(x2 == v2)))by rw[Pr.o,HM.o,rF]);cases h1:(x1 == y1)
      all_goals
       cases h2:(x2 == y2)
      all_goals
       have J0:=I O1.o;rw[h1,h2]at J0
      all_goals try(
       have HF:=I (show aQ az A B C ⟨1,Z,H,rr,(v1,v2),rp⟩=false by rw[J0.o];rfl);go_wp2;go_ret;exact⟨ag HF.symm,TW.all⟩)
      cases h3:(x1 == v1)
      all_goals
       cases h4:(x2 == v2)
      all_goals
       rw[h3,h4]at J0;go_wp2;go_ret;exact⟨ag (by rw[J0.o];rfl),TW.all⟩
 have PA:((yn:Int) != (nb:Int))=true:=m9;have HF:=I (show aQ az A B C ⟨1,Z,H,rr,(v1,v2),rp⟩=false by rw[HE.o,Rm.o,FN.o,Ok Na];rfl);unfold f8;go_in
 go_wp2_with fail;refine i7 HV λw1 hx=>?_;have T1:=I (T0.grow hx);have⟨p0,K,p2⟩:=T1.p;have⟨q0,q1,q2,q3,q4,q5⟩:=T1.q;go_wp2_with fail;refine i7 (Sk _ T1) λw2 hx=>?_;have T2:=I (T1.grow hx);clear p0 K p2 q0 q1 q2 q3 q4 q5;have⟨p0,K,p2⟩:=T2.p;have⟨q0,q1,q2,q3,q4,q5⟩:=T2.q;go_wp2;go_ret;exact⟨ag HF.symm,T2.all⟩
end
def WI(x:Option (Int×Int)):Bool:=match x with|none=>false|some v=>decide (v.1<=0)
def Vh(x:Option (Int×Int)):Bool:=match x with|none=>false|some v=>decide (0<v.1)
def Vs(x:Option (Int×Int)):Bool:=match x with|none=>false|some v=>decide (v.1<0)
def ZT(A:l8)(Y:l7)(j:Nat):Bool:=WI (DZ Y (aG (El A j)))
theorem rO(A:l8)(B:o3)(n:Nat)(Y:l7):oN A B n Y=((List.range n).all (ZT A Y)&&Vh (DZ Y (aG B))):=rfl
theorem zS(A:l8)(B:o3)(C:l7)(IJ:l7):ZI A B C IJ=((decide (JL IJ=JL C)&&J3 IJ)&&(em A IJ (List.replicate (JL B) 0)&&Vs (DZ C IJ))):=by
 unfold ZI;rw[Bool.and_assoc];rfl
section
variable{w:J}{a:l9}{na ca:Nat}{b:l9}{nb cb:Nat}{c:l9}{nc cc:Nat}{A:l8}{B:o3}{C:l7}
 {xa:l9} {xn xc:Nat} {ya:l9} {yn yc:Nat} {ra:l9} {rn rc:Nat} {r:G9}
def SK(h:σ:=by
 go_wp2;go_ret;exact⟨ag (by rw[Pr.o];rfl),X2.all⟩
 ):σ:=h
def J'(h:σ:=by
 go_wp2;go_ret;exact⟨ag (by rw[Pr.o];exact(UV JC).symm),X2.all⟩
 ):σ:=h
theorem AI(h:Kh w a na ca b nb cb c nc cc A B C)(h':R1 w xa xn xc ya yn yc ra rn rc r)(ok:Ej A B C=true)(hs:r.status=2):
 f8 201 #[Ig a na ca b nb cb c nc cc,H8 r xa xn xc ya yn yc ra rn rc] w (bl (aQ az A B C r)):=by
 have⟨r1,r2,r3,r4,r5,r6⟩:=dI h ok;subst r3;have T0:=I (nf.zero h h');have⟨EN,KG⟩:=h'.y.aq9;have⟨Eu,GU⟩:=h.c.aq9;have⟨E6,Ew⟩:=h.b.aq9;refine Sh h.c.hlen h.b.hlen h.a.hlen h'.y.hlen (show aQ az A B C r=(decide (JL r.Y=JL B)&&oN A B (JL C) r.Y)by unfold aQ;rw[f7 j0,f9 hs]) r4 (λj=>jJ (A:=A) (λi hi=>(r5 i (k8 h.a.hlen)).2) j) r6 λHk FN Hc Rm HE IL Qh I2=>?_;obtain⟨st,rX,E,rr,rv,rp⟩:=r;obtain⟨v1,v2⟩:=rv;simp only at hs HE Rm;subst hs;have HV:=I (fB T0.lp);rw[ok]at HV;clear h h' r4 r5 r6;have Qd:((2:Int) == 1)=false:=by decide
 by_cases Na:yn=nb
 ·subst Na;have PA:((yn:Int) != (yn:Int))=false:=by simp
  have GB:=I (show aQ az A B C ⟨2,rX,E,rr,(v1,v2),rp⟩=((List.range nc).all (ZT A E)&&Vh (DZ E (aG B)))by rw[HE.o,Rm.o,FN.o,Hk.o,UV rfl,rO];rfl);unfold f8;go_in
  go_wp2_with fail;refine i7 HV λw1 hx=>?_;have T2:=I (T0.grow hx);have⟨p0,K,Z⟩:=T2.p;have⟨q0,q1,H,q3,q4,q5⟩:=T2.q;go_wp2
  go_loopg [123] nc (λgk ii wr=>∃k:Nat,b9 (gk+k=nc)/\ii=U k/\b9 ((List.range k).all (ZT A E)=true)/\b9 (nf w wr a yn ca b yn cb c nc cc xa xn xc ya yn yc ra rn rc ⟨2,rX,E,rr,(v1,v2),rp⟩ A B C))
  ·exact da
  obtain⟨k,HK,rfl,HA,T⟩:=hrel;clear p0 K Z q0 q1 H q3 q4 q5;by_cases hlt:k<nc
  ·go_upto_region 24 with fail;have⟨p0,K,Z⟩:=T.p;have⟨q0,q1,H,q3,q4,q5⟩:=T.q;have HCL:=I (pQ A k);have⟨dv,JX⟩:=e9 (DZ E (aG (El A k)));have QS:=I JX.symm;obtain⟨d1,d2,MU,hdd⟩:∃x y ok,Ex dv=((x,y),ok):=⟨_,_,_,rfl⟩;refine t8 hdd (show eS (El A k)=aG (El A k)from gG (Qh k)) (show ZT A E k=WI dv by unfold ZT;rw[JX]) λKm QL Qe=>?_;clear JX hdd;go_upto_region 24 with fail
   go_cut [16,17] (λsx so wx=>∃g:Nat,sx=aP (some (O g 0))/\so=bl MU/\b9 (ah wr wx g d1 d2))
   case first =>
    have o7:=C7.drew wr;have D0:C7 wr (wr.alloc (QD #[U 0,U 0] 56)).drew:=WU.trans cn;have o8:=I (λ(w':J) (h:C7 wr w')=>(an (h.o6 p0) (an (h.o6 K) (an (h.o6 Z) (an (h.o6 H) h)))))
    go_region_held3 (λw'=>w'.cell? (O w 0)=some (GI a yn ca)/\w'.cell? (O w 1)=some (GI b yn cb)/\w'.cell? (O w 2)=some (GI c nc cc)/\w'.cell? (O (w+1) 2)=some (GI ya yn yc)/\C7 wr w')
     (exact Hz)
     (first
       | ((with_reducible refine(wH (b:=b) (nb:=yn) (cb:=cb) (c:=c) (nc:=nc) (cc:=cc) (T.o.lp.a.ext Mt) IL.o hlt j0 j0).mono ?_)
          rintro e w3 ⟨⟨v3,rfl,EV⟩,C6⟩;obtain⟨a3,n3,c3,rfl,LD⟩:=EV.var
          first|(with_reducible have A1:=ah.grow A1 C6)|(with_reducible have A1:=ah.DS C6)|(with_reducible have A1:=ah.DX o7 C6)|skip
          first|(have IX:=A1.c0;have IW:=A1.c1;have Kf:=A1.free)|skip
          have o7:C7 wr w3:=ZC;have FB:=o7.size)
       | ((with_reducible refine(jv A3 Jf).mono ?_)
          rw[QL.o];rintro e w4 ⟨⟨v4,rfl,Hd⟩,DP⟩;obtain⟨a4,n4,c4,rfl,Oj⟩:=Hd.var
          first|(with_reducible have A1:=ah.grow A1 DP)|(with_reducible have A1:=ah.DS DP)|(with_reducible have A1:=ah.DX o7 DP)|skip
          first|(have IX:=A1.c0;have IW:=A1.c1;have Kf:=A1.free)|skip
          have o7:C7 wr w4:=Zi;have FB:=o7.size)
       | ((with_reducible refine(im (T.o.lr.y.ext Mt) P7).mono ?_)
          rw[QS.o,Km.o];rintro e w5 ⟨rfl,B0⟩
          first|(with_reducible have A1:=ah.grow A1 B0)|(with_reducible have A1:=ah.DS B0)|(with_reducible have A1:=ah.DX o7 B0)|skip
          first|(have IX:=A1.c0;have IW:=A1.c1;have Kf:=A1.free)|skip
          have o7:C7 wr w5:=XG;have FB:=o7.size))
    all_goals(exact Jm)
   obtain⟨g,rfl,rfl,Ee⟩:=hcut;have X2:=I (T.grow Ee.ext);clear p0 K Z q0 q1 H q3 q4 q5;have g0:=Ee.c0;cases dv with
   | none =>
     have Kd:MU=false:=by have:=Km.o;simp only[Ex]at this;simpa using (If Prod.snd this).symm
     subst Kd;have HF:=I (show aQ az A B C ⟨2,rX,E,rr,(v1,v2),rp⟩=false by rw[GB.o,eh hlt (by rw[Qe.o];rfl)];rfl);go_wp2;go_ret;exact⟨ag HF.symm,X2.all⟩
   | some dvv =>
     have Kd:MU=true:=by have:=Km.o;simp only[Ex]at this;simpa using (If Prod.snd this).symm
     have LZ:dvv=(d1,d2):=by have:=Km.o;simp only[Ex]at this;simpa using If Prod.fst this
     subst Kd LZ;by_cases hl0:d1 > 0
     ·have HF:=I (show aQ az A B C ⟨2,rX,E,rr,(v1,v2),rp⟩=false by rw[GB.o,eh hlt (by rw[Qe.o];exact Ok j0)];rfl);go_wp2;go_ret;exact⟨ag HF.symm,X2.all⟩
     have HT:=I (show(List.range (k+1)).all (ZT A E)=true by rw[jq,HA.o,Qe.o,y6];exact UV j0);exact W2
  have DV:nc=k:=k8 HK.o;subst DV;have Pr:=I (show aQ az A B C ⟨2,rX,E,rr,(v1,v2),rp⟩=Vh (DZ E (aG B))by rw[GB.o,HA.o];rfl);have⟨dy,RS⟩:=e9 (DZ E (aG B));rw[<-RS]at Pr;obtain⟨y1,y2,Pu,V1⟩:∃x y ok,Ex dy=((x,y),ok):=⟨_,_,_,rfl⟩;refine t8 V1 RS.symm (show eS B=aG B from gG I2) λQa YC DO=>?_;clear RS V1;go_upto_region 28 with fail;have⟨p0,K,Z⟩:=T.p;have⟨q0,q1,H,q3,q4,q5⟩:=T.q;go_upto_region 28 with fail
  go_cut [18,19] (λsx so wx=>∃g:Nat,sx=aP (some (O g 0))/\so=bl Pu/\b9 (ah wr wx g y1 y2))
  case first =>
   have o7:=C7.drew wr;have D0:C7 wr (wr.alloc (QD #[U 0,U 0] 56)).drew:=WU.trans cn;have o8:=I (λ(w':J) (h:C7 wr w')=>(an (h.o6 K) (an (h.o6 H) h)))
   go_region_held3 (λw'=>w'.cell? (O w 1)=some (GI b yn cb)/\w'.cell? (O (w+1) 2)=some (GI ya yn yc)/\C7 wr w')
    (exact Hz)
    (first
      | ((with_reducible refine(jv (T.o.lp.b.ext Mt) j0).mono ?_)
         rw[DO.o];rintro e w4 ⟨⟨v4,rfl,Hd⟩,DP⟩;obtain⟨a4,n4,c4,rfl,Oj⟩:=Hd.var
         first|(with_reducible have A1:=ah.grow A1 DP)|(with_reducible have A1:=ah.DS DP)|(with_reducible have A1:=ah.DX o7 DP)|skip
         first|(have IX:=A1.c0;have IW:=A1.c1;have Kf:=A1.free)|skip
         have o7:C7 wr w4:=Zi;have FB:=o7.size)
      | ((with_reducible refine(im (T.o.lr.y.ext Mt) P7).mono ?_)
         rw[YC.o,Qa.o];rintro e w5 ⟨rfl,B0⟩
         first|(with_reducible have A1:=ah.grow A1 B0)|(with_reducible have A1:=ah.DS B0)|(with_reducible have A1:=ah.DX o7 B0)|skip
         first|(have IX:=A1.c0;have IW:=A1.c1;have Kf:=A1.free)|skip
         have o7:C7 wr w5:=XG;have FB:=o7.size))
   all_goals(exact Jm)
  obtain⟨g,rfl,rfl,Ee⟩:=hcut;have X2:=I (T.grow Ee.ext);clear p0 K Z q0 q1 H q3 q4 q5;have g0:=Ee.c0;cases dy with
  | none =>
    have Kd:Pu=false:=by have:=Qa.o;simp only[Ex]at this;simpa using (If Prod.snd this).symm
    subst Kd;exact SK
  | some yv =>
    have Kd:Pu=true:=by have:=Qa.o;simp only[Ex]at this;simpa using (If Prod.snd this).symm
    have LZ:yv=(y1,y2):=by have:=Qa.o;simp only[Ex]at this;simpa using If Prod.fst this
    subst Kd LZ;by_cases JC:y1 > 0
    ·exact J'
    go_wp2;go_ret;exact⟨ag (by rw[Pr.o];exact(Ok j0).symm),X2.all⟩
 have PA:((yn:Int) != (nb:Int))=true:=m9;have HF:=I (show aQ az A B C ⟨2,rX,E,rr,(v1,v2),rp⟩=false by rw[HE.o,Rm.o,FN.o,Ok Na];rfl);unfold f8;go_in
 go_wp2_with fail;refine i7 HV λw1 hx=>?_;have T2:=I (T0.grow hx);have⟨p0,K,Z⟩:=T2.p;have⟨q0,q1,H,q3,q4,q5⟩:=T2.q;go_wp2;go_ret;exact⟨ag HF.symm,T2.all⟩
end
section
variable{w:J}{a:l9}{na ca:Nat}{b:l9}{nb cb:Nat}{c:l9}{nc cc:Nat}{A:l8}{B:o3}{C:l7}
 {xa:l9} {xn xc:Nat} {ya:l9} {yn yc:Nat} {ra:l9} {rn rc:Nat} {r:G9}
theorem AJ(h:Kh w a na ca b nb cb c nc cc A B C)(h':R1 w xa xn xc ya yn yc ra rn rc r)(ok:Ej A B C=true)(hs:r.status=3):
 f8 201 #[Ig a na ca b nb cb c nc cc,H8 r xa xn xc ya yn yc ra rn rc] w (bl (aQ az A B C r)):=by
 have⟨r1,r2,r3,r4,r5,r6⟩:=dI h ok;subst r3;have T0:=I (nf.zero h h');have⟨EN,KG⟩:=h'.y.aq9;have⟨Eu,GU⟩:=h.c.aq9;have⟨E6,Ew⟩:=h.b.aq9;refine tc h.c.hlen h.b.hlen h.a.hlen h'.y.hlen (show aQ az A B C r=(eO A B (JL C) r.X&&ZI A B C r.IJ)by unfold aQ;rw[f7 j0,f7 j0,f9 hs]) r4 r5 (λj=>jJ (A:=A) (λi hi=>(r5 i (k8 h.a.hlen)).2) j) r6 λHk FN Hc Rm aa IL JR Qh I2=>?_;obtain⟨st,rX,rY,rr,rv,rp⟩:=r;obtain⟨v1,v2⟩:=rv;simp only at hs aa Rm;subst hs;have HV:=I (fB T0.lp);rw[ok]at HV;clear h h' r4 r5 r6;have Sk:=I (λ(W:J) (t:nf w W a nb ca b nb cb c nc cc xa xn xc ya yn yc ra rn rc ⟨3,rX,rY,rr,(v1,v2),rp⟩ A B C)=>nX t.lp t.lr.x);rw[ok]at Sk;simp only[y6]at Sk;have Is:((3:Int) == 1)=false:=by decide
 have GJ:((3:Int) == 2)=false:=by decide
 cases hf:eO A B (JL C) rX
 ·rw[hf]at Sk aa;clear hf;unfold f8;go_in
  go_wp2_with fail;refine i7 HV λw1 hx=>?_;have E:=I (T0.grow hx);have⟨p0,p1,Z⟩:=E.p;have⟨q0,q1,q2,H,q4,q5⟩:=E.q;go_upto_region 31 with fail;have o7:=C7.drew w1;refine nE (S:=(λw'=>w'.cell? (O w 0)=some (GI a nb ca)/\w'.cell? (O w 1)=some (GI b nb cb)/\w'.cell? (O w 2)=some (GI c nc cc)/\w'.cell? (O (w+1) 1)=some (GI xa xn xc)/\w'.cell? (O (w+1) 3)=some (GI ra rn rc)/\C7 w1 w')) j8 ?_ (λo9=>?_)
  ·exact⟨o7.o6 p0,o7.o6 p1,o7.o6 Z,o7.o6 q1,o7.o6 H,o7⟩
  refine mq ⟨?_⟩;refine rd 3 λK hK=>?_;go_simp
  (go_at_call 275;refine IR (Sk _ (E.grow o7)) λw3 B5=>?_;have o7:=o7.trans B5)
  go_wp2_with fail;refine KO (an (o7.o6 p0) (an (o7.o6 p1) (an (o7.o6 Z) (an (o7.o6 q1) (an (o7.o6 H) o7))))) λo9=>?_;refine gn ⟨?_⟩;refine TK ⟨?_⟩;refine LA ⟨?_⟩;refine tk 23 ?_;refine tk 24 ?_;refine Pi j8 ?_ _;go_wp2;go_ret;exact⟨ag (by rw[aa.o];rfl),(E.grow o7).all⟩
 rw[hf]at Sk aa;clear hf;have HE:=I (show aQ az A B C ⟨3,rX,rY,rr,(v1,v2),rp⟩=((decide (JL rr=nc)&&J3 rr)&&(em A rr (List.replicate nb 0)&&Vs (DZ C rr)))by rw[aa.o,zS,Hk.o,FN.o,y6]);have LJ:=I (λ(W:J) (t:nf w W a nb ca b nb cb c nc cc xa xn xc ya yn yc ra rn rc ⟨3,rX,rY,rr,(v1,v2),rp⟩ A B C)=>mZ t.lr.IJ nc);cases hn:(decide (JL rr=nc)&&J3 rr)
 ·rw[hn]at HE;simp only[hn]at LJ;clear hn;unfold f8;go_in
  go_wp2_with fail;refine i7 HV λw1 hx=>?_;have E:=I (T0.grow hx);have⟨p0,p1,Z⟩:=E.p;have⟨q0,q1,q2,H,q4,q5⟩:=E.q;go_upto_region 31 with fail;have o7:=C7.drew w1;refine nE (S:=(λw'=>w'.cell? (O w 0)=some (GI a nb ca)/\w'.cell? (O w 1)=some (GI b nb cb)/\w'.cell? (O w 2)=some (GI c nc cc)/\w'.cell? (O (w+1) 1)=some (GI xa xn xc)/\w'.cell? (O (w+1) 3)=some (GI ra rn rc)/\C7 w1 w')) j8 ?_ (λo9=>?_)
  ·exact⟨o7.o6 p0,o7.o6 p1,o7.o6 Z,o7.o6 q1,o7.o6 H,o7⟩
  refine mq ⟨?_⟩;refine rd 3 λK hK=>?_;go_simp
  (go_at_call 275;refine IR (Sk _ (E.grow o7)) λw3 B5=>?_;have o7:=o7.trans B5)
  go_wp2_with fail;refine KO (an (o7.o6 p0) (an (o7.o6 p1) (an (o7.o6 Z) (an (o7.o6 q1) (an (o7.o6 H) o7))))) λo9=>?_;refine gn ⟨?_⟩;refine rd 11 λK hK=>?_;go_simp
  (go_at_call 278;refine IR (LJ _ (E.grow o7)) λw4 DN=>?_;have o7:=o7.trans DN)
  go_wp2_with fail;refine KO (an (o7.o6 p0) (an (o7.o6 p1) (an (o7.o6 Z) (an (o7.o6 q1) (an (o7.o6 H) o7))))) λo9=>?_;refine tk 12 ?_;refine tk 13 ?_;refine LA ⟨?_⟩;refine tk 23 ?_;refine tk 24 ?_;refine Pi j8 ?_ _;go_wp2;go_ret;exact⟨ag (by rw[HE.o];rfl),(E.grow o7).all⟩
 rw[hn]at HE;simp only[hn]at LJ;clear hn;have hmk:=kj nb j0;have JT:=I (λ(W:J) (t:nf w W a nb ca b nb cb c nc cc xa xn xc ya yn yc ra rn rc ⟨3,rX,rY,rr,(v1,v2),rp⟩ A B C)=>zw (b:=b) (nb:=nb) (cb:=cb) (c:=c) (nc:=nc) (cc:=cc) (t.grow (C7.alloc W (QD (bH (List.replicate nb 0)) 3))).lp.a (t.grow (C7.alloc W (QD (bH (List.replicate nb 0)) 3))).lr.IJ (nM.ints (show nM (W.alloc (QD (bH (List.replicate nb 0)) 3)) W 3 (List.replicate nb 0)from vC _ _) j7 (i8 nb) j0) (i8 _) JR);have⟨gv,Jd⟩:=e9 (em A rr (List.replicate nb 0));rw[<-Jd]at HE;simp only[<-Jd]at JT;clear Jd;unfold f8;go_in
 go_wp2_with fail;refine i7 HV λw1 hx=>?_;have E:=I (T0.grow hx);have⟨p0,p1,Z⟩:=E.p;have⟨q0,q1,q2,H,q4,q5⟩:=E.q;go_upto_region 31 with fail;have o7:=C7.drew w1;refine nE (S:=(λw'=>w'.cell? (O w 0)=some (GI a nb ca)/\w'.cell? (O w 1)=some (GI b nb cb)/\w'.cell? (O w 2)=some (GI c nc cc)/\w'.cell? (O (w+1) 1)=some (GI xa xn xc)/\w'.cell? (O (w+1) 3)=some (GI ra rn rc)/\C7 w1 w')) j8 ?_ (λo9=>?_)
 ·exact⟨o7.o6 p0,o7.o6 p1,o7.o6 Z,o7.o6 q1,o7.o6 H,o7⟩
 refine mq ⟨?_⟩;refine rd 3 λK hK=>?_;go_simp
 (go_at_call 275;refine IR (Sk _ (E.grow o7)) λw3 B5=>?_;have o7:=o7.trans B5)
 go_wp2_with fail;refine KO (an (o7.o6 p0) (an (o7.o6 p1) (an (o7.o6 Z) (an (o7.o6 q1) (an (o7.o6 H) o7))))) λo9=>?_;refine gn ⟨?_⟩;refine rd 11 λK hK=>?_;go_simp
 (go_at_call 278;refine IR (LJ _ (E.grow o7)) λw4 DN=>?_;have o7:=o7.trans DN)
 go_wp2_with fail;refine KO (an (o7.o6 p0) (an (o7.o6 p1) (an (o7.o6 Z) (an (o7.o6 q1) (an (o7.o6 H) o7))))) λo9=>?_;refine tk 12 ?_;refine tk 13 ?_;refine Xd ⟨?_⟩;refine ck ⟨?_⟩;have TG:=I (E.grow o7);have YR:=o7;have o7:=YR.trans (C7.alloc w4 (QD (bH (List.replicate nb 0)) 3));refine rd 21 λK hK=>?_;go_simp;refine KO (an (o7.o6 p0) (an (o7.o6 p1) (an (o7.o6 Z) (an (o7.o6 q1) (an (o7.o6 H) o7))))) λo9=>?_;refine rd 22 λK hK=>?_;go_simp
 (go_at_call 279;refine IR (JT _ TG) λw5 Ey=>?_;have o7:=o7.trans Ey)
 go_wp2_with fail;refine KO (an (o7.o6 p0) (an (o7.o6 p1) (an (o7.o6 Z) (an (o7.o6 q1) (an (o7.o6 H) o7))))) λo9=>?_;refine tk 23 ?_;refine tk 24 ?_;refine Pi j8 ?_ _;have T2:=I (E.grow o7);clear o7 YR p0 p1 Z q0 q1 q2 H q4 q5;have⟨p0,p1,Z⟩:=T2.p;have⟨q0,q1,q2,H,q4,q5⟩:=T2.q;cases gv
 ·exact IA
 have⟨dx,P9⟩:=e9 (DZ C rr);have Rp:=I (im T2.lp.c T2.lr.IJ);have Pr:=I (show aQ az A B C ⟨3,rX,rY,rr,(v1,v2),rp⟩=Vs dx by rw[HE.o,P9];rfl);rw[<-P9]at Rp;clear P9;cases dx with
 | none =>
   rw[show Ex none=((0,0),false)from rfl]at Rp;go_wp2_with fail;refine i7 Rp λw6 hx=>?_;have X2:=I ((T2.grow hx).grow (C7.alloc _ (QD #[U 0,U 0] 56)));exact SK
 | some v =>
   obtain⟨x1,x2⟩:=v;rw[show Ex (some (x1,x2))=((x1,x2),true)from rfl]at Rp;go_wp2_with fail;refine i7 Rp λw6 hx=>?_;have X2:=I ((T2.grow hx).grow (C7.alloc _ (QD #[U x1,U x2] 56)));by_cases JC:x1<0
   ·exact J'
   exact SK
theorem Cm(h:Kh w a na ca b nb cb c nc cc A B C)(E:R1 w xa xn xc ya yn yc ra rn rc r)(ok:Ej A B C=true):
 f8 201 #[Ig a na ca b nb cb c nc cc,H8 r xa xn xc ya yn yc ra rn rc] w (bl (aQ az A B C r)):=by
 by_cases K:r.status=1
 ·exact AH h E ok K
 by_cases H:r.status=2
 ·exact AI h E ok H
 by_cases G:r.status=3
 ·exact AJ h E ok G
 have HE:=I (show aQ az A B C r=false by unfold aQ;rw[f7 K,f7 H,f7 G]);have Z:=I (nf.zero h E);have HV:=I (fB Z.lp);rw[ok]at HV;obtain⟨st,rX,rY,rr,rv,rp⟩:=r;obtain⟨v1,v2⟩:=rv;simp only at K H G;have e1:(st == 1)=false:=m9;have e2:(st == 2)=false:=m9;have e3:(st == 3)=false:=m9;clear h E K H G;unfold f8;go_in
 go_wp2_with fail;refine i7 HV λw1 hx=>?_;have Q:=I (Z.grow hx);have⟨p0,p1,p2⟩:=Q.p;have⟨q0,q1,q2,q3,q4,q5⟩:=Q.q;go_wp2;go_ret;exact⟨ag HE.symm,Q.all⟩
end
end
section
variable{l:o3}{w:J}{a:l9}{n:Nat}
theorem kN{α:Type}{p:α->Bool}{l:List α}{k:Nat}{d:α}(h:k<JL l):(l.take (k+1)).all p=((l.take k).all p&&p (l[k]?.getD d)):=by
 rw[xl h,tn,Id h];simp
theorem iy{α:Type}{p:α->Bool}{l:List α}{k:Nat}{d:α}(h:k<JL l)(hb:p (l[k]?.getD d)=false):l.all p=false:=by
 exact k4
def Zb(h:σ:=by
 go_wp2;go_ret;exact⟨ag G0,rfl⟩
 ):σ:=h
def yo(h:σ:=by
 exact⟨0,I j0,rfl,I rfl,rfl⟩
 ):σ:=h
theorem uO{cap:Nat}(h:d9 w a n cap l):
 Calls prog 242 #[GI a n cap] w λe w'=>e=ar (bl (l.all (A4 · (-5000) 5000)))/\w=w':=by
 have⟨r8,r9⟩:=h.aq9;have HL:=I h.hlen;have K:=I h;clear h;go_in
 go_wp2
 go_loopg [3] n (λgk H wr=>∃k:Nat,b9 (gk+k=n)/\H=U k/\b9 ((l.take k).all (A4 · (-5000) 5000)=true)/\w=wr)
 ·exact yo
 obtain⟨k,HK,rfl,HA,rfl⟩:=hrel;by_cases hlt:k<n
 ·obtain⟨b,off,rfl,D1⟩:=K.at hlt;have⟨x,hx⟩:=e9 (l[k]?.getD 0);rw[<-hx]at D1;have E:=I (bj x (-5000) 5000 w);cases hb:A4 x (-5000) 5000
  all_goals
   rw[hb]at E
  ·have Z:b9 (l.all (A4 · (-5000) 5000)=false):=iy (d:=0) JO (by rw[<-hx];exact hb);clear hx hb;go_wp2_with (go_at_call 32;refine E.mono ?_;rintro e G ⟨rfl,rfl⟩);go_ret;exact⟨ag Z.symm,rfl⟩
  have HT:=I (show(l.take (k+1)).all (A4 · (-5000) 5000)=true by rw[kN (d:=0) JO,HA.o,<-hx,hb];rfl);clear hx hb;go_wp2_with (go_at_call 32;refine E.mono ?_;rintro e G ⟨rfl,rfl⟩)
  refine er ?_;exact⟨k+1,I (k8 HK.o),by go_num,HT,rfl⟩
 have HT:b9 (l.take k=l):=bR o1;exact Zb
section
variable{w:J}{a:l9}{na ca:Nat}{b:l9}{nb cb:Nat}{c:l9}{nc cc:Nat}{A:l8}{B:o3}{C:l7}
theorem nh{A:l8}{B:o3}{C:l7}(h:A.all (eR (JL C))=false):Ej A B C=false:=by rw[lP,h];simp
theorem eV(h:Kh w a na ca b nb cb c nc cc A B C):
 f8 177 #[Ig a na ca b nb cb c nc cc] w (bl (Ej A B C)):=by
 have B8:=C7.alloc w (bT a na ca b nb cb c nc cc);refine Op B8 (h.ext B8) (lP A B C) (ai w (bT a na ca b nb cb c nc cc) _ rfl) λHa H HE G=>?_;have⟨T',ON⟩:=h.a.aq9;have⟨E6,Ew⟩:=h.b.aq9;have⟨Eu,GU⟩:=h.c.aq9;refine t8 h.a.hlen h.b.hlen h.c.hlen λHc FN Hk=>?_;clear h B8;unfold f8;go_in
 go_upto_region 1 with fail;have⟨W,hW⟩:=e9 (w.alloc (bT a na ca b nb cb c nc cc));rw[<-hW]at Ha H G;rw[<-hW];clear hW;go_wp2
 go_loopg [3] na (λgk ii wr=>∃k:Nat,b9 (gk+k=na)/\ii=U k/\b9 ((A.take k).all (eR nc)=true)/\b9 (C7 W wr))
 ·exact N0
 obtain⟨k,HK,rfl,HA,X1⟩:=hrel;have p0:=aw (X1.blk G);have p2:=aJ (X1.blk G);by_cases hlt:k<na
 ·have⟨gb,Ke,ra,rn,rc,SF,NI,z8⟩:=(H.ext X1).a.at hlt;subst SF;have Ft:=I z8.hlen;have⟨IT,hrm⟩:=z8.aq9;have Zg:=I (show k<JL A by rw[Hc.o];exact hlt);have Hy:=I z8;have KN:=ST k;have Gj:=Rd k na;clear z8;go_upto_region 4 with fail;have E:=C7.drew wr;by_cases hl:rn=nc
  ·subst hl;have hne:((rn:Int) != (rn:Int))=false:=by simp
   have⟨sm,hsm⟩:=e9 ((A[k]?.getD []).all (A4 · (-5000) 5000));have HRI:=I (show eR rn (A[k]?.getD [])=sm by unfold eR;rw[Ft.o,hsm];simp);have Rk:=I (λ(W':J) (hx:C7 wr W')=>uO (Hy.ext hx));simp only[<-hsm]at Rk;clear hsm;refine nE (S:=(λw'=>w'.cell? (O w 0)=some (GI (some (O gb Ke)) na ca)/\w'.cell? (O w 2)=some (GI c rn cc)/\w'.cell? (O gb (Ke+k))=some (GI ra rn rc)/\C7 wr w')) j8 ?_ (λo9=>?_)
   ·exact⟨E.o6 p0,E.o6 p2,E.o6 NI,E⟩
   refine vA ⟨?_⟩;refine tk 14 ?_;refine tk 15 ?_;refine rd 16 λK hK=>?_;go_simp
   (go_at_call 242;refine(Rk _ E).mono ?_;rintro e w3 ⟨rfl,rfl⟩)
   go_wp2_with fail;refine KO (an (E.o6 p0) (an (E.o6 p2) (an (E.o6 NI) E))) λo9=>?_;refine tk 17 ?_;refine tk 18 ?_;refine Pi j8 ?_ _;have X2:=I (X1.trans E);clear p0 p2 NI E;cases sm
   ·have HF:b9 (Ej A B C=false):=nh (jF Zg.o (by rw[Hk.o];exact HRI));go_wp2;go_ret;exact⟨ag HF.symm,Ha.trans X2.o⟩
   have HT:=I (show(A.take (k+1)).all (eR rn)=true by rw[tQ Zg.o,HA.o,HRI.o];rfl);exact W2
  have hne:((rn:Int) != (nc:Int))=true:=m9;have HF:b9 (Ej A B C=false):=nh (jF Zg.o (by unfold eR;rw[Ft.o,Hk.o,Ok hl];rfl));clear hl;refine nE (S:=(λw'=>w'.cell? (O w 0)=some (GI (some (O gb Ke)) na ca)/\w'.cell? (O w 2)=some (GI c nc cc)/\w'.cell? (O gb (Ke+k))=some (GI ra rn rc)/\C7 wr w')) j8 ?_ (λo9=>?_)
  ·exact⟨E.o6 p0,E.o6 p2,E.o6 NI,E⟩
  refine vA ⟨?_⟩;refine Xd ⟨?_⟩;refine tk 18 ?_;refine Pi j8 ?_ _;go_wp2;go_ret;exact⟨ag HF.symm,Ha.trans (X1.trans E)⟩
 have DV:na=k:=k8 HK.o;subst DV;have HT:=I (show A.all (eR nc)=true by have:=HA.o;rwa [bR (by rw[Hc.o];exact i8 _)]at this);have p1:=aI (X1.blk G);have GB:=I (show Ej A B C=(decide (nc<=70)&&(decide (na<=8)&&(decide (nb=na)&&(B.all (A4 · (-5000) 5000)&&FM C))))by
  rw[HE.o,Hc.o,FN.o,Hk.o,HT.o];cases FM C<;>simp)
 by_cases h1:nc<=70
 ·by_cases h2:na<=8
  ·by_cases h3:nb=na
   ·subst h3;have FD:((nb:Int) == (nb:Int))=true:=by simp
    have adz:(nc:Int)<=70:=j0;have Z:(nb:Int)<=8:=j0;have Rk:=I (uO (H.ext X1).b);have Pt:=I (jT (H.ext X1).c);cases hs:B.all (A4 · (-5000) 5000)
    ·have HF:=I (show Ej A B C=false by rw[GB.o,hs];simp);rw[hs]at Rk;clear hs;go_wp2_with fail;refine Rk.mono ?_;rintro e w3 ⟨rfl,rfl⟩;have qq0:=@ag;exact gd
    have HF:=I (show Ej A B C=FM C by rw[GB.o,hs,UV h1,UV h2,UV rfl];rfl);rw[hs]at Rk;clear hs;go_wp2_with fail;refine Rk.mono ?_;rintro e w3 ⟨rfl,rfl⟩;go_wp2_with fail;refine IR Pt λw3 hx=>?_;go_wp2;go_ret;exact⟨ag HF.symm,Ha.trans (X1.trans hx)⟩
   have HF:=I (show Ej A B C=false by rw[GB.o,Ok h3];simp);have FD:((nb:Int) == (na:Int))=false:=m9;have adz:(nc:Int)<=70:=j0;have Z:(na:Int)<=8:=j0;have qq0:=@ag;exact gd
  have HF:=I (show Ej A B C=false by rw[GB.o,Ok h2];simp);have adz:(nc:Int)<=70:=j0;have Z:¬(na:Int)<=8:=j0;have qq0:=@ag;exact gd
 have HF:=I (show Ej A B C=false by rw[GB.o,Ok h1];simp);have adz:¬(nc:Int)<=70:=j0;have qq0:=@ag;exact gd
end
theorem qy{b:l9}{cap n' E:Nat}{A B:l7}(h:i6 w a n cap A)(G:i6 w b n' E B):
 f8 254 #[GI a n cap,GI b n' E] w (IN (Ex (DZ A B))):=by
 have HL:=I h.hlen;have OA:=I G.hlen;have r8:=h.r8;have r9:=h.r9;have WO:=G.r8;have Wx:=G.r9;have H:=C7.alloc w (QD #[.int .i64 0,.int .i64 0] 56);refine Op (h.ext H) (G.ext H) H (ai w (QD #[.int .i64 0,.int .i64 0] 56) _ rfl) λHIA HIB A8 DO=>?_;clear h G H;by_cases hne:n=n'
 ·subst hne;have HD:=I (show DZ A B=Gy A B n by unfold DZ;rw[HL.o,OA.o,f9 rfl]);have SC:((n:Int) != (n:Int))=false:=by simp
  (try unfold f8);go_in
  go_wp2_with fail;refine IR (cL 0 _) λw1 K=>?_;have A0:=I K;have Ko:=I (ah.new (C7.refl w1) 0 1);have GA:=I (λ(w':J) (hx:C7 w1 w')=>(hx.block _ rk).trans ((A0.block _ (In DO)).trans DO));have Ha:=I (A8.trans A0);have Wi:w.heap.size<w1.heap.size:=by have:=In DO.o;have:=A0.size;omega
  clear K;go_wp2
  go_loopg [7] n (λgk Z wr=>∃(k:Nat) (p q:Int),b9 (gk+k=n)/\Z=.int .i64 (k:Int)/\b9 (ah w1 wr w1 p q)/\b9 (Gy A B k=some (p,q)))
  ·exact⟨0,0,1,I j0,rfl,Ko,I rfl⟩
  have qq0:=@xL;have qq1:=@iZ;have qq2:=@Pt;exact O1
 have qq0:=@Pt;exact Sn
theorem gm{v:arQ}{a b:Bool}(h:a=b):ar (.tuple #[v,bl a])=ar (.tuple #[v,bl b]):=by rw[h]
theorem xI{cap:Nat}(h:d9 w a n cap l)(hbig:n<=1048576):
 Calls prog 303 #[GI a n cap] w λe w'=>(∃v,e=ar (.tuple #[v,bl (Ls l)])/\WV w' w v (eS l))/\C7 w w':=by
 have⟨r8,r9⟩:=h.aq9;refine t8 h.hlen h (WV.made w w (i8 _)) λHL HI HO=>?_;clear h;go_in
 go_wp2
 go_loopg [4,5] n (λgk oo ii wr=>∃(k:Nat) (a1:l9) (Z c1:Nat),b9 (gk+k=n)/\ii=U k/\oo=GI a1 Z c1/\b9 ((l.take k).all (λc=>A4 c (-1000000000) 1000000000)=true)/\b9 (WV wr w (GI a1 Z c1) (aG (l.take k)))/\b9 (C7 w wr))
 ·exact Q'
 obtain⟨k,a1,Z,c1,HK,rfl,rfl,HA,G,E⟩:=hrel;have hsz:=E.size;by_cases hlt:k<n
 ·obtain⟨b,off,rfl,D1⟩:=(HI.ext E).at hlt;have⟨x,hx⟩:=e9 (l[k]?.getD 0);rw[<-hx]at D1;have HC:=I (bj x (-1000000000) 1000000000 wr);cases hb:A4 x (-1000000000) 1000000000
  all_goals
   rw[hb]at HC
  ·have H:b9 (Ls l=false):=iy (d:=0) JO (by rw[<-hx];exact hb);have HR:=I (show eS l=[]by unfold eS;rw[H.o];rfl);clear hx hb;go_wp2_with (go_at_call 32;refine HC.mono ?_;rintro e w2 ⟨rfl,rfl⟩)
   go_ret2;exact⟨⟨_,gm H.symm,by rw[HR.o];exact WV.made _ _ hsz⟩,E.trans WU⟩
  refine t8 (show(l.take (k+1)).all (λc=>A4 c (-1000000000) 1000000000)=true by rw[kN (d:=0) JO,HA.o,<-hx,hb];rfl) (show aG (l.take k)++[(x,1)]=aG (l.take (k+1))by rw[hx];exact pN JO) (show(aG (l.take k)).length=k by rw[fS,k6,HL.o];omega) λK F9 EW=>?_;clear hx hb;go_wp2_with (go_at_call 32;refine HC.mono ?_;rintro e w2 ⟨rfl,rfl⟩);refine i7 (cL x _) λw3 hx=>?_;have X3:=I (E.trans hx);have B9:=I (G.ext hx);have J8:=X3.size
  go_wp2_with (first
   | (at_builtin;refine Ot x 1 B9 X3 N5 λa5 n5 p5 w5 It X5 DT=>?_))
  refine er ?_;exact⟨k+1,a5,n5,p5,I (k8 HK.o),by go_num,rfl,K,I cd,X5⟩
 have K:b9 (l.take k=l):=bR o1;have H:=I (show Ls l=true by have:=HA.o;rw[K.o]at this;exact this);have HR:=I (show eS l=aG (l.take k)by unfold eS;rw[H.o,K.o];rfl);go_wp2;go_ret2;exact⟨⟨_,gm H.symm,by rw[HR.o];exact G⟩,E⟩
def NO(h:σ:=by
 have hr:=bO (X2.blk DO);obtain⟨Eb,Eh,Ip⟩:=hr;clear hx;go_wp2;refine Fn (by simp[results,results251,go_sem,Eb,Eh]<;>rfl) rfl ⟨by rw[<-QS.o];rfl,(((A8.trans X2).store 0 (i8 _) _).store 1 (i8 _) _)⟩
 ):σ:=h
theorem oP{cap:Nat}(h:d9 w a n cap l)(hf:Ls l=true)(E:n<=1048576){xa:l9}{xn xc:Nat}{X:l7}(hX:i6 w xa xn xc X):
 f8 251 #[GI a n cap,GI xa xn xc] w (IN (Ex (DZ (aG l) X))):=by
 have K:=C7.alloc w (QD #[U 0,U 0] 56);refine ns K (xI (h.ext K) E) (hX.ext K) (show eS l=aG l by unfold eS;rw[hf];rfl) (ai w (QD #[U 0,U 0] 56) _ rfl) λA8 HI Ir Fq DO=>?_;rw[hf,Fq.o]at HI;clear h hX K hf;unfold f8;go_in
 go_wp2_with fail;refine PP HI λw1 v1 ho H=>?_;obtain⟨a1,n1,c1,rfl,HN1⟩:=ho.var;have G:=I (qy ho.rats (Ir.ext H));have⟨dv,QS⟩:=GT (DZ (aG l) X);rw[<-QS.o]at G;clear ho;have hsz:=H.size;rw[O6]at hsz;cases dv with
 | none =>
   rw[show Ex none=((0,0),false)from rfl]at G;go_wp2_with fail;refine IR G λQ hx=>?_;have X2:=I ((H.trans hx).trans (C7.alloc Q (QD #[U 0,U 0] 56)));exact NO
 | some r =>
   obtain⟨r1,Z⟩:=r;rw[show Ex (some (r1,Z))=((r1,Z),true)from rfl]at G;go_wp2_with fail;refine IR G λQ hx=>?_;have X2:=I ((H.trans hx).trans (C7.alloc Q (QD #[U r1,U Z] 56)));exact NO
theorem lv(m:Nat)(hm:m<=100000):
 Calls prog 253 #[U m] w λe w'=>(∃v,e=ar v/\WV w' w v (List.replicate m (0,1)))/\C7 w w':=by
 have HO1:=I (WV.made w w (i8 _));go_in
 go_wp2
 go_loopg [3,4] m (λgk K Z wr=>∃(k:Nat) (H:l9) (G E:Nat),b9 (gk+k=m)/\Z=U k/\K=GI H G E/\b9 (WV wr w (GI H G E) (List.replicate k (0,1)))/\b9 (C7 w wr))
 ·exact O0
 obtain⟨k,H,G,E,HK,rfl,rfl,HR,GV⟩:=hrel;by_cases hlt:k<m
 ·have EW:=I (show(List.replicate k ((0:Int),(1:Int))).length=k by simp);go_wp2_with fail;refine IR (cL 0 _) λw3 hx=>?_;have X3:=I (GV.trans hx);have B9:=I (HR.ext hx);have qq0:=@er;exact ka
 have D7:m=k:=k8 HK.o;exact pv
section
variable{w:J}{a:l9}{na ca:Nat}{b:l9}{nb cb:Nat}{c:l9}{nc cc:Nat}{A:l8}{B:o3}{C:l7}
theorem Bp(h:Kh w a na ca b nb cb c nc cc A B C)(ok:Ej A B C=true){j:Nat}(hj:j<nc):
 Calls prog 304 #[Ig a na ca b nb cb c nc cc,U j] w λe w'=>(∃v,e=ar v/\r' w' w v (El A j))/\C7 w w':=by
 have⟨r1,r2,r3,r4,r5,r6⟩:=dI h ok;subst r3;have Z:=C7.alloc w (bT a nb ca b nb cb c nc cc);have A8:=I Z;have E:=I (ai w (bT a nb ca b nb cb c nc cc) _ rfl);have⟨W,K⟩:=e9 (w.alloc (bT a nb ca b nb cb c nc cc));have H:=I (h.ext Z);rw[<-K]at Z A8 E H;have HI:=I H.a;have⟨T',ON⟩:=h.a.aq9;have⟨Eu,GU⟩:=h.c.aq9;have HL:=I h.a.hlen;have EW:=I r4;have Mn:W.heap.size=w.heap.size+1:=by rw[K];simp
 have HO:=I (r'.D2 W (w+1) _ rfl j0);have X0:=I (C7.alloc W (QD #[] 3));have HV:=I (eV (H.ext X0));rw[ok]at HV;have Hl:=I (λw'=>bj (j:Int) 0 ((nc:Int)-1) w');rw[show A4 (j:Int) 0 ((nc:Int)-1)=true by unfold A4;simp;omega]at Hl;have Hn:=dk ((nc:Int)-1);clear h r4 r5 r6 ok Z;go_in
 go_upto_region 1 with fail;rw[<-K];clear K;have⟨p0,G,p2⟩:=gl (X0.blk E);rw[Mn]at HO;go_wp2_with fail;refine i7 HV λw1 hx=>?_;have X1:=I (X0.trans hx);have aeN:=I (HO.ext hx);clear p0 G p2;have p2:=aJ (X1.blk E);go_wp2_with (go_at_call 32;refine(Hl _).mono ?_;rintro e w2 ⟨rfl,rfl⟩)
 go_loopg [5,6] nb (λgk o ii wr=>∃(k:Nat) (a1:l9) (n1 G:Nat),b9 (gk+k=nb)/\ii=U k/\o=GI a1 n1 G/\b9 (r' wr (w+1) (GI a1 n1 G) (El (A.take k) j))/\b9 (C7 W wr))
 ·exact⟨0,_,_,_,I j0,rfl,rfl,I (by simpa[El]using aeN.o),X1⟩
 obtain⟨k,a1,n1,G,HK,rfl,rfl,HO1,A0⟩:=hrel;clear p2;have p0:=aw (A0.blk E);have hsz:=A0.size;by_cases hlt:k<nb
 ·obtain⟨gb,Ke,ra,rn,rc,rfl,NI,z8⟩:=(HI.ext A0).at hlt;have IT:rn=nc:=by rw[<-z8.hlen];exact EW.o k hlt
  exact ML
 have DV:nb=k:=k8 HK.o;subst DV;have HT:b9 (A.take nb=A):=bR b6;rw[HT.o]at HO1;go_wp2;go_ret;exact⟨⟨_,rfl,HO1.mono j0⟩,A8.trans A0.o⟩
theorem lu{w:J}{a:l9}{n cap:Nat}{l:l7}(h:i6 w a n cap l):
 f8 256 #[GI a n cap] w (bl (J3 l)):=by
 have⟨r8,r9⟩:=h.aq9;have HL:=I h.hlen;have HI:=I h;clear h;unfold f8;go_in
 go_wp2
 go_loopg [3] n (λgk ii wr=>∃k:Nat,b9 (gk+k=n)/\ii=U k/\b9 ((l.take k).all (λr=>z7 r&&decide (0<=r.1))=true)/\b9 (C7 w wr))
 ·exact N0
 obtain⟨k,HK,rfl,HA,HX⟩:=hrel;by_cases G:k<n
 ·obtain⟨b,off,x,y,rfl,E,D1,Eu⟩:=(HI.ext HX).at G;have H:=I (cI x y wr);have K:=I (show k<JL l by rw[HL.o];exact G);cases hb:z7 (x,y)
  all_goals
   rw[hb]at H
  ·have HF:b9 (J3 l=false):=iy (d:=(0,0)) K.o (by rw[E,hb];rfl);clear E hb;go_wp2_with fail;refine IR H λZ C4=>?_;exact pq
  by_cases B8:x<0
  ·have HF:b9 (J3 l=false):=iy (d:=(0,0)) K.o (by rw[E,hb];simp;omega);clear E hb;go_wp2_with fail;refine IR H λZ C4=>?_;have k0:=C4.o6 D1;have k1:=C4.o6 Eu;exact pq
  have HT:=I (show(l.take (k+1)).all (λr=>z7 r&&decide (0<=r.1))=true by rw[kN (d:=(0,0)) K.o,HA.o,E,hb];simp;omega);clear E hb;go_wp2_with fail;refine IR H λZ C4=>?_;have k0:=C4.o6 D1;have k1:=C4.o6 Eu;exact Ob
 exact OB
end
theorem gQ{r:o3}(h:∀x∈r,-5000<=x/\x<=5000):Ls r=true:=by
 unfold Ls;rw[gy];intro x hx;have:=h x hx;unfold A4;simp;omega
theorem uN{na ca:Nat}{b:l9}{nb cb:Nat}{c:l9}{nc cc:Nat}{A:l8}(h:dB w a na ca A){xa:l9}{xn Nv:Nat}{X:l7}(hX:i6 w xa xn Nv X)
 {da:l9} {dn Xv:Nat} {D:o3} (hD:d9 w da dn Xv D) (hdn:na<=dn) (G:∀i,i<na->JL (A[i]?.getD [])<=70/\∀x∈A[i]?.getD [],-5000<=x/\x<=5000) :
 f8 257 #[Ig a na ca b nb cb c nc cc,GI xa xn Nv,GI da dn Xv] w (bl (em A X D)):=by
 have K:=C7.alloc w (bT a na ca b nb cb c nc cc);refine ns K (h.ext K) (hX.ext K) (hD.ext K) G λA8 HI Ir Km GA=>?_;have⟨T',ON⟩:=h.aq9;have⟨PH,WL⟩:=hD.aq9;have Hc:=I h.hlen;have H:=I (ai w (bT a na ca b nb cb c nc cc) _ rfl);have HE:=I (show em A X D=(List.range na).all (iD A X D)by rw[ue,Hc.o]);clear h hX hD K G;unfold f8;go_in
 go_wp2
 go_loopg [7] na (λgk ii wr=>∃k:Nat,b9 (gk+k=na)/\ii=U k/\b9 ((List.range k).all (iD A X D)=true)/\b9 (C7 (w.alloc (bT a na ca b nb cb c nc cc)) wr))
 ·exact N0
 obtain⟨k,HK,rfl,HA,HX⟩:=hrel;have Z:=HX.size;rw[O6]at Z;by_cases hlt:k<na
 ·have⟨gb,Ke,ra,rn,rc,SF,NI,G⟩:=(HI.ext HX).at hlt;subst SF;have IT:rn<=70:=by rw[<-G.hlen];exact(GA k hlt).1
  have p0:=aw (HX.blk H);have X2:=HX;have HD:=I (oP G (gQ (GA k hlt).2) j0 (Ir.ext X2));clear G;have⟨dv,JX⟩:=e9 (DZ (aG (A[k]?.getD [])) X);have HG:=I (show iD A X D k=decide (dv=some (D[k]?.getD 0,1))by rw[JX];rfl);rw[<-JX]at HD;clear JX;have⟨db,OO,hda,QB⟩:=(Km.ext X2).at (show k<dn by omega);subst hda;generalize D[k]?.getD 0=d at HG QB;cases dv with
  | none =>
    exact Q6
  | some r =>
    have qq0:=@cL;exact SG
 have DV:na=k:=k8 HK.o;subst DV;have p0:=aw (HX.blk H);have qq0:=@ag;exact YF
