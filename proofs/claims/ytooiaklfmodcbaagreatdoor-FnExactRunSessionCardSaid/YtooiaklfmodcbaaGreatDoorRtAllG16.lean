import Derived.Test.YtooiaklfmodcbaaGreatDoorRtAllG12
set_option linter.all false
set_option maxHeartbeats 6000000
set_option maxRecDepth 100000
namespace Go.Proofs.YtooiaklfmodcbaaGreatDoor
open Ending renaming returned->ar
open List renaming length->JL
open Obj renaming cells->QD
open Value renaming slice->GI,bool->bl,string->aE,pointer->aP
open Go.RowKit Go.Proofs.Tryz
variable{σ:Prop}
section
def AA{b c o:Nat}(h:some (⟨b,o,none⟩:Addr)=some ⟨c,o,none⟩):b=c:=by simpa using h
def RO(h:σ:=by subst e;rfl):σ:=h
def RA(h:σ:=by rw[hk,e]):σ:=h
def LZ(h:σ:=by simp[results,qq0,go_sem,Eb,Eh]<;>rfl):σ:=h
def rk(h:σ:=by have:=In DO.o;have:=A0.size;omega):σ:=h
def cF(h:σ:=by rw[HN.o];rfl):σ:=h
def T9(h:σ:=by simp[results,qq2,go_sem,Eb,Eh]<;>rfl):σ:=h
def Qq(h:σ:=by simp only[Value.ownBlock,bq]at hk;show k≠g;omega):σ:=h
def VX(h:σ:=by rw[dV];omega):σ:=h
variable{Y C cs:l7}{A M L:l8}{j n i base b d k N G:Nat}{x:Int}{B r m:o3}{a:l9}{α:Type}{w:J}{vs:List arQ}
theorem tW{X Y:l7}:∀{k:Nat} {v:o4},Gy X Y k=some v->z7 v=true/\(∀j,j<k->z7 (X[j]?.getD (0,0))=true/\z7 (Y[j]?.getD (0,0))=true)/\val v=A7 (λj=>B4 X j*B4 Y j) k
 | 0,v,e=>by
   simp only[Gy,bq]at e;subst e;refine⟨rfl,λj K=>absurd K j0,?_⟩;unfold val A7;simp;grind
 | k+1,v,e=>by
   simp only[Gy]at e;cases H:Gy X Y k with
   | none=>rw[H]at e;cases e
   | some s =>
     rw[H]at e;simp only[mr]at e
     split at e
     ·next h2 =>
      simp only[bq]at e;have⟨h3,h4,h5⟩:=tW H;have⟨m1,m2,m3,Z⟩:=Ag h2.1;have⟨a1,a2,a3,a4⟩:=oU h2.2;rw[<-e];refine⟨a3,λj K=>?_,?_⟩
      ·by_cases E:j<k
       ·exact h4 j E
       obtain rfl:j=k:=j0
       exact⟨m1,m2⟩
      rw[a4,Z,h5];rfl
     cases e
theorem eF{X:l7}{v:o4}(e:DZ X Y=some v):JL X=JL Y/\z7 v=true/\(∀j,j<JL X->z7 (X[j]?.getD (0,0))=true/\z7 (Y[j]?.getD (0,0))=true)/\val v=A7 (λj=>B4 X j*B4 Y j) (JL X):=by
 unfold DZ at e;split at e
 ·next h=>exact⟨h,tW e⟩
 cases e
theorem tV(X Y:l7):∀k,Gy X Y k=Gy Y X k
 | 0=>rfl
 | k+1=>by simp only[Gy,tV X Y k,CJ (X[k]?.getD (0,0))]
theorem kT(X Y:l7):DZ X Y=DZ Y X:=by
 unfold DZ;by_cases h:JL X=JL Y
 ·rw[f9 h,f9 h.symm,h,tV]
 rw[f7 h,f7 (λe=>h e.symm)]
theorem wh(Y:l7)(k:Nat):(Y.map C5)[k]?.getD (0,0)=C5 (Y[k]?.getD (0,0)):=by
 rw[vM];cases Y[k]?<;>rfl
theorem vV(X Y:l7):∀k,Gy X (Y.map C5) k=(Gy X Y k).map C5
 | 0=>rfl
 | k+1=>by
   simp only[Gy,vV X Y k,wh,Vw];cases Gy X Y k with
   | none=>rfl
   | some s =>
     simp only[yl,mr,Yb]
     split<;>rfl
theorem Xs(X Y:l7):DZ X (Y.map C5)=(DZ X Y).map C5:=by
 unfold DZ;rw[dc];split
 ·exact vV X Y _
 rfl
theorem BJ(l:o3):aG (l.map λx=>-x)=(aG l).map C5:=by
 unfold aG;rw[Uc,Uc];rfl
def Ss(A:l8)(C:l7)(j:Nat):Prop :=
 (∃x:Int,C[j]?.getD (0,0)=(x,1)/\-1000000<=x/\x<=1000000)∨∃j',j'<JL C/\C[j']?.getD (0,0)=C5 (C[j]?.getD (0,0))/\El A j'=(El A j).map λx=>-x
theorem XM(h:az A Y C j=true):bL A Y C j=true:=by
 unfold az at h;unfold bL;cases e:DZ Y (aG (El A j))with
 | none=>rw[e]at h;cases h
 | some v =>
   rw[e]at h;simp only[eI,ef]at h⊢;have⟨s1,K,H,E⟩:=oV h.1;rw[oB s1 K];have:=(iO H).1 h.2;rw[E]at this;grind
theorem zr{v c:o4}(h1:-1000000<=x)(h2:x<=1000000)(H:z7 v=true)(hc:z7 c=true)(e:val c=(x:Rat)-val v):D9 (x,1) v=(c,true):=by
 have hb:=aU H;have kb:=aU hc;have hx:z7 (x,1)=true:=(Fr.int x j0 j0).1;have hn:(x*v.2).natAbs<=1000000*1000000000:=by
  rw[WR];exact EE j0 j0
 have E:(x*v.2-v.1*1)*c.2=c.1*(1*v.2):=by
  have a:=fF (show v.2≠0 by omega);have b:=fF (show c.2≠0 by omega);have:((x:Rat)*v.2-v.1)*c.2=c.1*v.2:=by unfold val at e;grind
  have h3:(x*v.2-v.1)*c.2=c.1*v.2:=by exact_mod_cast this
  grind
 unfold D9;rw[f9 (by rw[hx,H];rfl)];simp only;have⟨r,Z,K⟩:=qs (n:=x*v.2-v.1*1) (d:=1*v.2) (x:=c.1) (D:=c.2) j0 j0 j0 j0 j0 j0 E;rw[Z];have:=Fr.eq K (Fr.self hc) rfl;rw[this]
theorem BS{c:o4}(hc:z7 c=true)(Z:∃x:Int,C[j]?.getD (0,0)=(x,1)/\-1000000<=x/\x<=1000000)(h:bL A Y C j=true)
 (e:∀v,DZ Y (aG (El A j))=some v->val c=val (C[j]?.getD (0,0))-val v):az A Y C j=true:=by
 obtain⟨x,hx,h1,h2⟩:=Z;unfold bL at h;unfold az;cases H:DZ Y (aG (El A j))with
 | none=>rw[H]at h;cases h
 | some v =>
   rw[H]at h;have E:=e v H;have K:=(eF H).2.1;simp only[hx,ef]at h E⊢;rw[fz]at E;rw[zr h1 h2 K hc E];simp only[y6,ef];rw[iO hc,E];have:=(oB (Fr.int x j0 j0).1 K).1 h;rw[fz]at this;grind
theorem oA{c:o4}(h:z7 c=true):D9 c c=((0,1),true):=by
 have hb:=aU h;unfold D9;rw[f9 (by rw[h];rfl),Int.sub_self];have E:0<c.2*c.2:=Int.mul_pos j0 j0;have⟨r,K,H⟩:=qs (n:=0) (d:=c.2*c.2) (x:=0) (D:=1) E j0 (YH ⟨by omega,hb.2.1⟩ ⟨by omega,hb.2.1⟩).2 j0 j0 j0 j0;rw[K];have:=Fr.eq H (Fr.int 0 j0 j0) rfl;rw[this]
theorem Ak{j':Nat}(K:z7 (C[j]?.getD (0,0))=true)(e1:C[j']?.getD (0,0)=C5 (C[j]?.getD (0,0)))(e2:El A j'=(El A j).map λx=>-x)
 (h:bL A Y C j=true) (H:bL A Y C j'=true):az A Y C j=true:=by
 unfold bL at h H;unfold az;rw[e2,BJ,Xs,e1]at H;cases Z:DZ Y (aG (El A j))with
 | none=>rw[Z]at h;cases h
 | some v =>
   rw[Z]at h H;have LQ:=(eF Z).2.1;simp only[ef,yl]at h H;rw[oB K LQ]at h;rw[oB (by rw[eu];exact K) (by rw[eu];exact LQ),is,is]at H;have E:val (C[j]?.getD (0,0))=val v:=by grind
   have:=Af K LQ E;simp only;rw[this,oA LQ];rfl
theorem gR(h:Ej A B C=true):JL C<=70/\JL A<=8/\JL B=JL A/\(∀j,j<JL C->z7 (C[j]?.getD (0,0))=true) /\
 (∀i,i<JL A->JL (A[i]?.getD [])=JL C/\∀x∈A[i]?.getD [],-5000<=x/\x<=5000)/\∀i,i<JL B->-5000<=B[i]?.getD 0/\B[i]?.getD 0<=5000:=by
 unfold Ej FM at h;simp only[eI,ef,gy,A4]at h;obtain⟨h1,h2,h3,Z,K,H⟩:=h;refine⟨h1,h2,h3,λj E=>?_,λi hi=>?_,λi hi=>?_⟩
 ·rw[Id E];exact Z _ (eN _)
 ·rw[Id hi];exact K _ (eN _)
 rw[Id hi];exact H _ (eN _)
theorem ia(b:Int):(b<0/\GS b=-1)∨(¬b<0/\GS b=1):=by
 unfold GS;by_cases h:b<0
 ·exact .inl ⟨h,f9 h⟩
 exact .inr ⟨h,f7 h⟩
theorem jo(K:JL (A[i]?.getD [])=n)(hi:i<JL A):
 JL (dF A B i)=n+JL A+1/\(∀j,j<n->(dF A B i)[j]?.getD (0,0)=(GS (B[i]?.getD 0)*(A[i]?.getD [])[j]?.getD 0,1))/\(∀k,k<JL A->(dF A B i)[n+k]?.getD (0,0)=if k=i then(1,1) else(0,1))/\(dF A B i)[n+A.length]?.getD (0,0)=(GS (B[i]?.getD 0)*B[i]?.getD 0,1):=by
 have E:JL ((A[i]?.getD []).map λx=>(GS (B[i]?.getD 0)*x,(1:Int)))=n:=by rw[dc,K]
 have H:(sH (JL A) i).length=JL A:=by simp[sH]
 unfold dF;refine⟨by simp[K,H];omega,λj hj=>?_,λk Z=>?_,?_⟩
 ·rw[tv (by rw[SW,E];omega),tv j0,vM];rw[Id (l:=A[i]?.getD []) (by rw[K];exact hj)];rfl
 ·rw[tv (by rw[SW,E,H];omega),Sl j0,E,Nat.add_sub_cancel_left];unfold sH;rw[vM,TA Z];rfl
 rw[Sl (by rw[SW,E,H];omega),SW,E,H];simp
theorem mT(x:Int)(h:-1000000000<=x)(E:x<=1000000000):z7 (x,1)=true:=(Fr.int x h E).1
def Hi(h:σ:=by
 refine mT _ ?_ ?_<;>rcases ia (B[i]?.getD 0)with⟨_,e⟩|⟨_,e⟩<;>rw[e]<;>omega
 ):σ:=h
theorem jD(h:Ej A B C=true):EY (JL C) (JL A) (λk j=>B4 (dF A B k) j) (cz A B (JL C)):=by
 have⟨h1,h2,h3,h4,K,h6⟩:=gR h;have Z:∀i,i<JL A->(cz A B (JL C)).row i=dF A B i:=by
  intro i hi;unfold cz Tb.row;simp only[vM,TA hi,yl,Nm]
 refine⟨rfl,by simp[cz],by simp[cz],λb hb=>?_,λi hi=>?_,λi hi=>?_⟩
 ·simp only[cz,C',sj]at hb;obtain⟨i,hi,rfl⟩:=hb;omega
 ·rw[Z i hi];have⟨r1,r2,H,r4⟩:=jo (B:=B) (K i hi).1 hi;refine⟨r1,λj hj=>?_⟩;by_cases E:j<JL C
  ·rw[r2 j E];have hm:(A[i]?.getD [])[j]?.getD 0∈A[i]?.getD []:=by
    rw[Id (l:=A[i]?.getD []) (by rw[(K i hi).1];exact E)];exact eN _
   have I5:=(K i hi).2 _ hm;exact Hi
  by_cases SE:j<JL C+JL A
  ·obtain⟨k,rfl⟩:∃k,j=JL C+k:=⟨j-C.length,by omega⟩;rw[H k j0];split<;>rfl
  obtain rfl:j=JL C+JL A:=j0;rw[r4];have:=h6 i j0;exact Hi
 rw[Z i hi];have⟨r1,r2,H,r4⟩:=jo (B:=B) (K i hi).1 hi;intro j hj;rw[ym (i:=i) hi]
 ·unfold B4;rw[H i hi,f9 rfl];have:val (1,1)=1:=by unfold val;grind
  rw[this];grind
 intro k hk G4;unfold B4;rw[H k hk,f7 G4];have:val (0,1)=0:=by unfold val;grind
 rw[this];grind
theorem qH(f:Nat->Rat):∀m,A7 (λk=>- f k) m=- A7 f m
 | 0=>by simp[A7]
 | m+1=>by simp only[A7,qH f m];grind
theorem yd(b x:Int):val (GS b*x,1)=(GS b:Rat)*(x:Rat):=by rw[fz];exact_mod_cast rfl
theorem Cd(B:o3)(cs:l7)(n i:Nat):val (eM B cs n i)=- ((GS (B[i]?.getD 0):Rat)*B4 cs (n+i)):=by
 unfold eM He;rcases ia (B[i]?.getD 0)with⟨h,e⟩|⟨h,e⟩
 ·rw[f9 h,e,is,is];unfold B4;have:((-1:Int):Rat)=-1:=by exact_mod_cast rfl
  rw[this];grind
 rw[f7 h,e,is];unfold B4;have:((1:Int):Rat)=1:=by exact_mod_cast rfl
 rw[this];grind
theorem ZK(ok:Ej A B C=true){r:G9}(h:Gi A B C=some r)(hs:r.status=1):
 ∃cs,mE (JL C+JL A+1) cs/\JL r.Y=JL B/\r.value=C5 (cs[JL C+A.length]?.getD (0,0))/\(∀j,j<JL C->B4 cs j=val (C[j]?.getD (0,0))-A7 (λk=>B4 r.Y k*(((A[k]?.getD [])[j]?.getD 0:Int):Rat)) (JL A)) /\
   B4 cs (JL C+JL A)=- A7 (λk=>B4 r.Y k*((B[k]?.getD 0:Int):Rat)) (JL A):=by
 have⟨h1,h2,h3,h4,h5,h6⟩:=gR ok;unfold Gi at h;rw[h3]at h;cases e1:bD (eQ (JL C) (JL A)) 1000 (cz A B (JL C))with
 | none=>rw[e1]at h;cases h
 | some p1 =>
   rw[e1]at h;simp only[mr]at h;split at h
   ·rw[Sc]at h;obtain⟨Y,_,rfl⟩:=h;cases hs
   cases e2:bP (JL C) (p1.t,p1.left) (JL A) with
   | none=>rw[e2]at h;cases h
   | some s =>
     rw[e2]at h;simp only[mr]at h;rw[Sc]at h;obtain⟨H,e3,h⟩:=h;split at h
     ·subst h;cases hs
     have i1:=(eE (jD ok) e1).1;have i2:=(gO (s:=(p1.t,p1.left)) i1 e2).1;obtain⟨i3,e4,_⟩:=eE i2 e3;have⟨c1,c2⟩:=fi i3 e4;subst h;have GU:∀j,(dw C (JL A)++[(0,1)])[j]?.getD (0,0)=if j<JL C then C[j]?.getD (0,0) else if j<JL C+JL A+1 then(0,1) else(0,0):=by
      intro j;unfold dw;by_cases K:j<JL C
      ·rw[f9 K,yf,tv K]
      rw[f7 K,yf,Sl j0];have:List.replicate (JL A) ((0:Int),(1:Int))++[(0,1)]=List.replicate (JL A+1) (0,1):=by rw[eo]
      rw[this,Tl];by_cases SE:j<JL C+JL A+1
      ·rw[f9 SE,f9 j0];rfl
      rw[f7 SE,f7 j0];rfl
     have hz:∀k,k<JL A+1->B4 (dw C (JL A)++[(0,1)]) (JL C+k)=0:=by
      intro k E;unfold B4;rw[GU,f7 j0,f9 j0];unfold val;grind
     have hY:∀k,k<JL A->B4 ((List.range (JL A)).map (eM B H.costs (JL C))) k=- ((GS (B[k]?.getD 0):Rat)*B4 H.costs (JL C+k)):=by
      intro k E;unfold B4;rw[vM,TA E,yl,Nm,Cd];rfl
     refine⟨H.costs,c1,by simp[h3],rfl,λj K=>?_,?_⟩
     ·have hr:=c2 j j0;have Z:B4 (dw C (JL A)++[(0,1)]) j=val (C[j]?.getD (0,0)):=by unfold B4;rw[GU,f9 K]
      have Ti:A7 (λk=>(B4 H.costs (JL C+k)-B4 (dw C (JL A)++[(0,1)]) (JL C+k))*B4 (dF A B k) j) (JL A)=A7 (λk=>- (B4 ((List.range (JL A)).map (eM B H.costs (JL C))) k*(((A[k]?.getD [])[j]?.getD 0:Int):Rat))) (JL A) :=
       bX λk E=>by
        rw[hz k j0,hY k E];have:B4 (dF A B k) j=(GS (B[k]?.getD 0):Rat)*(((A[k]?.getD [])[j]?.getD 0:Int):Rat):=by
         unfold B4;rw[(jo (B:=B) (h5 k E).1 E).2.1 j K,yd]
        rw[this];grind
      rw[Ti,qH,Z]at hr;simp only
      grind
     have hr:=c2 (JL C+JL A) j0;have Ti:A7 (λk=>(B4 H.costs (JL C+k)-B4 (dw C (JL A)++[(0,1)]) (JL C+k))*B4 (dF A B k) (JL C+JL A)) (JL A)=A7 (λk=>- (B4 ((List.range (JL A)).map (eM B H.costs (JL C))) k*((B[k]?.getD 0:Int):Rat))) (JL A) :=
      bX λk E=>by
       rw[hz k j0,hY k E];have:B4 (dF A B k) (JL C+JL A)=(GS (B[k]?.getD 0):Rat)*((B[k]?.getD 0:Int):Rat):=by
        unfold B4;rw[(jo (B:=B) (h5 k E).1 E).2.2.2,yd]
       rw[this];grind
     rw[Ti,qH,hz A.length j0]at hr;simp only
     grind
theorem zk(A:l8)(j k:Nat)(E:k<JL A):(El A j)[k]?.getD 0=(A[k]?.getD [])[j]?.getD 0:=by
 unfold El;rw[vM,Id E];rfl
theorem XI(ok:Ej A B C=true)(hn:∀j,j<JL C->Ss A C j){r:G9}(h:Gi A B C=some r):aQ az A B C r=aQ bL A B C r:=by
 unfold aQ;split
 ·next hs =>
  have⟨cs,c1,c2,c3,c4,c5⟩:=ZK ok h hs;have⟨h1,h2,h3,h4,h5,h6⟩:=gR ok;have Z:(List.range (JL C)).all (az A r.Y C)=(List.range (JL C)).all (bL A r.Y C):=by
   rw[yy,gy,gy];constructor
   ·intro K j H;exact XM (K j H)
   intro K j H;have E:=sj.1 H;rcases hn j E with hi|⟨j',SE,e1,e2⟩
   ·refine BS (c1.2 j j0) hi (K j H) λv hv=>?_;have:=c4 j E;unfold B4 at this;rw[this];have⟨d1,d2,d3,d4⟩:=eF hv;rw[d4,c2,h3];congr 1;refine bX λk hk=>?_;unfold B4;rw[oE (by simp[El];omega),zk A j k hk,fz]
   exact Ak (h4 j E) e1 e2 (K j H) (K j' (sj.2 SE))
  rw[Z]
 rfl
theorem UM(E:Ej A B C=true->∀j,j<JL C->Ss A C j):bG az A B C=bG bL A B C:=by
 unfold bG;split
 ·next ok =>
  cases e:Gi A B C with
  | none=>rfl
  | some r=>simp only[XI ok (E ok) e]
 rfl
def ek(B:o3)(base:o4)(cs:l7)(n i:Nat):o4:=He (B[i]?.getD 0) (D9 base (cs[n+i]?.getD (0,0))).1
def Iv(A:l8)(B:o3)(C:l7):Option G9 :=
 (bD (eQ (JL C) (JL B)) 1000 (cz A B (JL C))).bind λp1 =>
   if(p1.costs[JL C+B.length]?.getD (0,0)).1<0 then
    some ⟨2,[],(List.range (JL B)).map (ek B (1,1) p1.costs (JL C)),[],(0,0),1000-p1.left⟩
   else(bP (JL C) (p1.t,p1.left) (JL B)).bind λs=>(bD (dw C (JL B)) s.2 s.1).map λp2 =>
    if 0<=p2.DU then⟨3,(Ga p2.t).take (JL C),[],F6 p2.t (JL C) p2.DU.toNat (JL B),(0,0),1000-p2.left⟩
    else⟨1,(Ga p2.t).take (JL C),(List.range (JL B)).map (ek B (0,1) p2.costs (JL C)),[],C5 (p2.costs[JL C+B.length]?.getD (0,0)),1000-p2.left⟩
def fc(A:l8)(B:o3)(C:l7):G9 :=
 if Ej A B C=true then
  match Iv A B C with
  | none=>bh 4
  | some r=>if aQ bL A B C r=true then r else bh 4
 else bh 0
theorem Av{base:o4}{x:o4}(h:gP B base cs n i=some x):ek B base cs n i=x:=by
 unfold gP at h;split at h
 ·exact tu h
 cases h
theorem oz{a b:o4}(h:(D9 a b).2=false):(D9 a b).1=(0,0):=by
 unfold D9 at h⊢;split
 ·next hv=>rw[f9 hv]at h;exact Vd h
 rfl
theorem Au{base:o4}(h:gP B base cs n i=none):z7 (ek B base cs n i)=false:=by
 unfold gP at h;split at h
 ·cases h
 next hf =>
 unfold ek;rw[oz (by simpa using hf)];unfold He C5;split<;>rfl
theorem Ce(E:z7 (cs[n+i]?.getD (0,0))=true):ek B (0,1) cs n i=eM B cs n i:=by
 unfold ek eM;rw[zr (x:=0) (c:=C5 (cs[n+i]?.getD (0,0))) j0 j0 E (by rw[eu];exact E) (by rw[is];grind)]
theorem rT{f:Nat->Option (Int×Int)}:∀{k:Nat},LE f k=none->∃i,i<k/\f i=none
 | 0,h=>by cases h
 | k+1,h=>by
   cases H:LE f k with
   | none=>have⟨i,hi,E⟩:=rT H;exact⟨i,by omega,E⟩
   | some l =>
     cases E:f k with
     | none=>exact⟨k,by omega,E⟩
     | some x=>rw[ea H E]at h;cases h
theorem ZL(ok:Ej A B C=true):
 Iv A B C=Gi A B C∨(Gi A B C=none/\∃r,Iv A B C=some r/\aQ bL A B C r=false):=by
 have⟨h1,h2,h3,h4,h5,h6⟩:=gR ok;unfold Iv Gi;cases e1:bD (eQ (JL C) (JL B)) 1000 (cz A B (JL C))with
 | none=>exact xt rfl
 | some p1 =>
   simp only[mr];by_cases E:(p1.costs[JL C+B.length]?.getD (0,0)).1<0
   ·rw[f9 E,f9 E];cases hr:LE (gP B (1,1) p1.costs (JL C)) (JL B) with
    | some Y =>
      left;have hY:(List.range (JL B)).map (ek B (1,1) p1.costs (JL C))=Y:=by
       have:=xC (f:=gP B (1,1) p1.costs (JL C)) (F:=ek B (1,1) p1.costs (JL C)) (k:=JL B) λi hi=>by
        have:=ir hr i hi;rw[this,Av this]
       rw[hr]at this;exact(tu this).symm
      rw[hY];rfl
    | none =>
      right;refine⟨rfl,_,rfl,?_⟩;have⟨i,hi,hf⟩:=rT hr;have hv:=Au hf;unfold aQ;rw[f7 j7,f9 rfl];simp only;rw[tq];right;unfold oN;rw[tq];right
      cases hd:DZ ((List.range (JL B)).map (ek B (1,1) p1.costs (JL C))) (aG B)with
      | none=>rfl
      | some v =>
        exfalso;have:=((eF hd).2.2.1 i (by simpa using hi)).1;rw[vM,TA hi,yl,Nm,hv]at this;cases this
   rw[f7 E,f7 E];left
   cases e2:bP (JL C) (p1.t,p1.left) (JL B) with
   | none=>rfl
   | some s =>
     simp only[mr];cases e3:bD (dw C (JL B)) s.2 s.1 with
     | none=>rfl
     | some p2 =>
       simp only[yl];split
       ·rfl
       have Z:=(eE (jD ok) e1).1;have K:=(gO (s:=(p1.t,p1.left)) Z e2).1;obtain⟨H,e4,_⟩:=eE K e3;have⟨c1,c2⟩:=fi H e4;congr 2;apply W6;intro i hi;exact Ce (c1.2 _ (k8 (sj.1 hi)))
theorem DB(A:l8)(B:o3)(C:l7):fc A B C=bG bL A B C:=by
 unfold fc bG;split
 ·next ok =>
  rcases ZL ok with h|⟨K,r,H,E⟩
  ·rw[h];cases Gi A B C<;>rfl
  rw[K,H];simp only;rw[E];rfl
 rfl
theorem jW(E:Ej A B C=true->∀j,j<JL C->Ss A C j):bG az A B C=fc A B C:=by rw[DB];exact UM E
def Fl(M:l8)(c d:Nat):Nat:=match (M.drop d).findIdx? (λr=>r[c]?.getD 0 != 0)with|some k=>d+k|none=>JL M
def BB{α:Type}[Inhabited α](l:List α)(a b:Nat):List α:=(l.set a (l[b]?.getD default)).set b (l[a]?.getD default)
theorem dV[Inhabited α](l:List α)(a b:Nat):JL (BB l a b)=JL l:=by simp[BB]
theorem kH[Inhabited α]{l:List α}{a b:Nat}(K:a<JL l)(hb:b<JL l)(i:Nat):(BB l a b)[i]?.getD default=if i=b then l[a]?.getD default else if i=a then l[b]?.getD default else l[i]?.getD default:=by
 unfold BB;by_cases H:i=b
 ·subst H;rw[f9 rfl];simp[hb]
 rw[f7 H,sq (yx H)];by_cases E:i=a
 ·subst E;rw[f9 rfl];simp[K]
 rw[f7 E,sq (yx E)]
theorem UG[Inhabited α](l:List α){a b:Nat}(H:a<JL l)(hb:b<JL l):BB l a b=BB l b a:=by
 apply Tz;intro i;by_cases hi:i<JL l
 ·have E:=kH H hb i;have h2:=kH hb H i;have e:(if i=b then l[a]?.getD default else if i=a then l[b]?.getD default else l[i]?.getD default)=(if i=a then l[b]?.getD default else if i=b then l[a]?.getD default else l[i]?.getD default):=by
   by_cases Z:i=b
   ·subst Z;by_cases K:i=a
    ·subst K;simp
    simp[K]
   simp[Z]
  rw[e,<-h2]at E;have l1:i<JL (BB l a b):=by rw[dV];exact hi
  have l2:i<JL (BB l b a):=by rw[dV];exact hi
  rw[Id l1,Id l2]at E⊢
  simpa using E
 rw[q8 VX,q8 VX]
def Ed(c:Nat)(p r:o3):o3:=(List.range (JL r)).map λj=>r[j]?.getD 0*p[c]?.getD 0-r[c]?.getD 0*p[j]?.getD 0
def Jg(l:o3):Int:=l.foldl gI 0
def cJ(c:Nat)(p r:o3):o3:=if r[c]?.getD 0=0 then r else(Ed c p r).map λx=>x.tdiv (max (Jg (Ed c p r)) 1)
theorem fC(c:Nat)(p r:o3):JL (Ed c p r)=JL r:=by simp[Ed]
theorem Cf(c:Nat)(p r:o3):JL (cJ c p r)=JL r:=by unfold cJ;split<;>simp[fC]
theorem ki{c:Nat}{p:o3}(h:j<JL r):(Ed c p r)[j]?.getD 0=r[j]?.getD 0*p[c]?.getD 0-r[c]?.getD 0*p[j]?.getD 0:=by simp[Ed,h]
def GF(e:Nat->o3->o3->o3)(c:Nat)(M:l8)(d t:Nat):l8:=(List.range (JL M)).map λi=>if d<i/\i<t then e c (M[d]?.getD []) (M[i]?.getD []) else M[i]?.getD []
theorem eC(e:Nat->o3->o3->o3)(c:Nat)(M:l8)(d t:Nat):JL (GF e c M d t)=JL M:=by simp[GF]
theorem iV(e:Nat->o3->o3->o3)(c:Nat)(M:l8)(d t:Nat)(h:i<JL M):(GF e c M d t)[i]?.getD []=if d<i/\i<t then e c (M[d]?.getD []) (M[i]?.getD []) else M[i]?.getD []:=by simp[GF,h]
theorem mz{l E:l8}(K:JL l=JL E)(h:∀i,i<JL l->l[i]?.getD []=E[i]?.getD []):l=E:=by
 apply TC K;intro i H Z;have:=h i H;rw[Id H,Id Z]at this
 simpa using this
theorem rS(e:Nat->o3->o3->o3)(c:Nat)(M:l8)(d:Nat):GF e c M d (d+1)=M:=by
 refine mz (eC _ _ _ _ _) λi hi=>?_;rw[eC]at hi;rw[iV _ _ _ _ _ hi,f7 j0]
theorem oh(e:Nat->o3->o3->o3)(c:Nat)(M:l8)(d t:Nat)(h:d<t)(K:t<JL M):(GF e c M d t).set t (e c (M[d]?.getD []) (M[t]?.getD []))=GF e c M d (t+1):=by
 refine mz (by simp[eC]) λi hi=>?_;rw[k7,eC]at hi;rw[iV _ _ _ _ _ hi];by_cases E:i=t
 ·subst E;rw[f9 ⟨h,by omega⟩,vY (by rw[eC];exact K)];rfl
 rw[sq (yx E),iV _ _ _ _ _ hi];by_cases H:d<i/\i<t
 ·rw[f9 H,f9 ⟨H.1,by omega⟩]
 rw[f7 H,f7 j0]
theorem iW(e:Nat->o3->o3->o3)(c:Nat)(M:l8)(d t i:Nat)(h:i<JL M)(hi:t<=i∨i<=d):(GF e c M d t)[i]?.getD []=M[i]?.getD []:=by
 rw[iV _ _ _ _ _ h,f7 j0]
theorem De{e:Nat->o3->o3->o3}{c:Nat}{t:Nat}(h:d<t)(H:t<JL M)(K:e c (M[d]?.getD []) (M[t]?.getD [])=M[t]?.getD []):GF e c M d t=GF e c M d (t+1):=by
 rw[<-oh e c M d t h H,K];refine mz j7 λi hi=>?_;rw[eC]at hi;by_cases E:i=t
 ·subst E;rw[vY (by rw[eC];exact hi),iW _ _ _ _ _ _ hi j0];rfl
 rw[sq (yx E)]
def J5(m r:o3)(j:Nat):o3:=m.take j++r.drop j
theorem ut(m r:o3):J5 m r 0=r:=by simp[J5]
theorem xh(h:JL m=JL r):J5 m r (JL m)=m:=by unfold J5;rw[cT,h,List.drop_length,C3]
theorem zC(h:JL m=JL r)(hj:j<JL r):(J5 m r j)[j]?.getD 0=r[j]?.getD 0:=by
 unfold J5;have E:JL (m.take j)=j:=m9;rw[Sl j0,E,XJ];simp
theorem Vz(h:JL m=JL r)(H:j<JL r):(J5 m r j).set j (m[j]?.getD 0)=J5 m r (j+1):=by
 unfold J5;have E:JL (m.take j)=j:=m9;rw[ct _ _ j0,E,Y',RQ H,MY,cW j0,yf];rfl
theorem UO(hi:i<JL M)(h:M[i]?.getD []=r):M.set i r=M:=by
 refine mz j7 λk E=>?_;rw[k7]at E;by_cases e:k=i
 ·subst e;rw[vY hi,h];rfl
 rw[sq (yx e)]
theorem uT(hi:i<JL M)(E:JL m=JL r)(H:j<JL r):(M.set i (J5 m r j)).set i (((M.set i (J5 m r j))[i]?.getD []).set j (m[j]?.getD 0))=M.set i (J5 m r (j+1)):=by
 rw[vY hi,Nm,List.set_set,Vz E H]
def Ik(e:Nat->o3->o3->o3)(c:Nat)(s:l8×Nat):l8×Nat :=
 if Fl s.1 c s.2<JL s.1 then(GF e c (BB s.1 s.2 (Fl s.1 c s.2)) s.2 (JL s.1),s.2+1) else s
def RK(e:Nat->o3->o3->o3)(M:l8):Nat->l8×Nat
 | 0=>(M,0)
 | c+1=>Ik e c (RK e M c)
theorem fq{c:Nat}(h:Fl M c d<JL M):d<=Fl M c d/\(M[Fl M c d]?.getD [])[c]?.getD 0≠0/\∀i,d<=i->i<Fl M c d->(M[i]?.getD [])[c]?.getD 0=0:=by
 unfold Fl at h⊢;cases E:(M.drop d).findIdx? (λr=>r[c]?.getD 0 != 0)with
 | none=>rw[E]at h;simp at h
 | some k =>
   simp only;rw[Tp]at E;obtain⟨h1,K,Z⟩:=E;rw[Lr]at h1;refine⟨by omega,?_,λi hi Tq=>?_⟩
   ·rw[List.getElem_drop]at K;have:d+k<JL M:=by omega
    rw[Id this];simpa using K
   have H:=Z (i-d) j0;rw[List.getElem_drop]at H;have:i<JL M:=j0;rw[Id this];have e:d+(i-d)=i:=j0;simp only[e]at H
   simpa using H
theorem jw{c:Nat}(h:¬Fl M c d<JL M)(hd:d<=JL M):Fl M c d=JL M/\∀i,d<=i->i<JL M->(M[i]?.getD [])[c]?.getD 0=0:=by
 unfold Fl at h⊢;cases E:(M.drop d).findIdx? (λr=>r[c]?.getD 0 != 0)with
 | none =>
   refine⟨rfl,λi hi Tq=>?_⟩;rw[nv]at E;have:=E (M[i]) (List.mem_drop_iff_getElem.2 ⟨i-d,by omega,by congr 1;omega⟩);rw[Id Tq]
   simpa using this
 | some k =>
   rw[E]at h;simp only at h;rw[Tp]at E;obtain⟨H,_⟩:=E;rw[Lr]at H;omega
theorem ZP{c:Nat}(K:d<=k)(Fe:k<JL M)(h:(M[k]?.getD [])[c]?.getD 0≠0)(hz:∀i,d<=i->i<k->(M[i]?.getD [])[c]?.getD 0=0):Fl M c d=k:=by
 by_cases H:Fl M c d<JL M
 ·have⟨h1,h2,Z⟩:=fq H;rcases Nat.lt_trichotomy (Fl M c d) k with E|E|E
  ·exact absurd (hz _ h1 E) h2
  ·exact E
  exact absurd (Z k K E) h
 exact absurd ((jw H j0).2 k K Fe) h
theorem Vi{c:Nat}(H:d<=JL M)(hz:∀i,d<=i->i<JL M->(M[i]?.getD [])[c]?.getD 0=0):Fl M c d=JL M:=by
 by_cases E:Fl M c d<JL M
 ·have⟨Z,K,h3⟩:=fq E;exact absurd (hz _ Z E) K
 exact(jw E H).1
theorem zL(M:l8)(c:Nat)(H:d<=JL M):d<=Fl M c d/\Fl M c d<=JL M:=by
 by_cases E:Fl M c d<JL M
 ·exact⟨(fq E).1,Nat.le_of_lt E⟩
 rw[(jw E H).1];exact⟨H,i8 _⟩
theorem CV{c:Nat}(K:d<=JL M)(H:d<=k)(Z:k<Fl M c d):(M[k]?.getD [])[c]?.getD 0=0:=by
 by_cases E:Fl M c d<JL M
 ·exact(fq E).2.2 k H Z
 have:=jw E K;exact this.2 k H j0
def p7(n:Nat)(B:Int)(M:l8):Prop:=∀i,i<JL M->JL (M[i]?.getD [])=n/\∀j:Nat,-B<=(M[i]?.getD [])[j]?.getD 0/\(M[i]?.getD [])[j]?.getD 0<=B
def Rf:Nat->Int
 | 0=>1
 | d+1=>2*(Rf d*Rf d)
theorem iA:∀d,d<=4->1<=Rf d/\Rf d<=32768/\Rf d<=Rf (d+1):=by
 have:∀d:Fin 5,1<=Rf d.val/\Rf d.val<=32768/\Rf d.val<=Rf (d.val+1):=by decide +kernel
 exact λd hd=>this ⟨d,by omega⟩
theorem iU{y B:Int}(h1:-B<=x)(h2:x<=B)(h3:-B<=y)(h4:y<=B):-(B*B)<=x*y/\x*y<=B*B:=by
 have hx:x.natAbs<=B.natAbs:=j0;have E:y.natAbs<=B.natAbs:=j0;have h:(x*y).natAbs<=B.natAbs*B.natAbs:=by rw[WR];exact EE hx E
 have e:((B.natAbs*B.natAbs:Nat):Int)=B*B:=by
    rw[UP];have:(B.natAbs:Int)=B:=j0;rw[this]
 omega
theorem xj{c:Nat}{p:o3}{B:Int}(E:∀j:Nat,-B<=p[j]?.getD 0/\p[j]?.getD 0<=B)(hr:∀j:Nat,-B<=r[j]?.getD 0/\r[j]?.getD 0<=B)(j:Nat):
 -(2*(B*B))<=(Ed c p r)[j]?.getD 0/\(Ed c p r)[j]?.getD 0<=2*(B*B):=by
 by_cases h:j<JL r
 ·rw[ki h];have H:=iU (hr j).1 (hr j).2 (E c).1 (E c).2;have h2:=iU (hr c).1 (hr c).2 (E j).1 (E j).2;omega
 rw[q8 (by rw[fC];omega)];simp only[XK];have:=iU (hr 0).1 (hr 0).2 (hr 0).1 (hr 0).2;have h0:0<=B*B:=by
    have H:=hr 0;have:0<=B:=j0;exact B3 this this
 omega
theorem QS{c:Nat}{p:o3}{B:Int}(H:1<=B)(E:∀j:Nat,-B<=p[j]?.getD 0/\p[j]?.getD 0<=B)(hr:∀j:Nat,-B<=r[j]?.getD 0/\r[j]?.getD 0<=B)(j:Nat):
 -(2*(B*B))<=(cJ c p r)[j]?.getD 0/\(cJ c p r)[j]?.getD 0<=2*(B*B):=by
 have A1:B<=B*B:=by have:=Int.mul_le_mul_of_nonneg_left H (show 0<=B by omega);omega
 unfold cJ;split
 ·have:=hr j;omega
 have h1:=xj (c:=c) E hr j;by_cases h:j<JL r
 ·have e:((Ed c p r).map λx=>x.tdiv (max (Jg (Ed c p r)) 1))[j]?.getD 0=((Ed c p r)[j]?.getD 0).tdiv (max (Jg (Ed c p r)) 1):=by
   simp[fC,h]
  rw[e];generalize(Ed c p r)[j]?.getD 0=x at *;have h2:(x.tdiv (max (Jg (Ed c p r)) 1)).natAbs<=x.natAbs:=by rw[Uj];exact Yr _ _
  omega
 rw[q8 (by simp[fC];omega)];simp only[XK];omega
theorem kt{B:Int}(h:p7 n B M){a:Nat}(E:a<JL M)(hb:b<JL M):p7 n B (BB M a b):=by
 intro i hi;rw[dV]at hi;have:=kH E hb i;change(BB M a b)[i]?.getD []=_ at this;rw[this]
 split
 ·exact h a E
 split
 ·exact h b hb
 exact h i hi
theorem pZ{B B':Int}(h:p7 n B M)(A1:B<=B'){e:Nat->o3->o3->o3}{c t:Nat}(E:d<JL M)
 (H:∀p r:o3,JL p=n->JL r=n->(∀j:Nat,-B<=p[j]?.getD 0/\p[j]?.getD 0<=B)->(∀j:Nat,-B<=r[j]?.getD 0/\r[j]?.getD 0<=B)->JL (e c p r)=n/\∀j:Nat,-B'<=(e c p r)[j]?.getD 0/\(e c p r)[j]?.getD 0<=B'):p7 n B' (GF e c M d t):=by
 intro i hi;rw[eC]at hi;rw[iV _ _ _ _ _ hi];split
 ·exact H _ _ (h d E).1 (h i hi).1 (h d E).2 (h i hi).2
 have:=h i hi;exact⟨this.1,λj=>by have:=this.2 j;omega⟩
def QM(e:Nat->o3->o3->o3):Prop:=∀(B:Int) (n c:Nat) (p r:o3),1<=B->JL p=n->JL r=n->(∀j:Nat,-B<=p[j]?.getD 0/\p[j]?.getD 0<=B)->(∀j:Nat,-B<=r[j]?.getD 0/\r[j]?.getD 0<=B)->JL (e c p r)=n/\∀j:Nat,-(2*(B*B))<=(e c p r)[j]?.getD 0/\(e c p r)[j]?.getD 0<=2*(B*B)
theorem sF:QM cJ:=λB n c p r E hp hr K H=>⟨by rw[Cf,hr],λj=>QS E K H j⟩
theorem ys:QM Ed:=λB n c p r hB hp hr H E=>⟨by rw[fC,hr],λj=>xj H E j⟩
theorem kl{e:Nat->o3->o3->o3}(E:QM e){n:Nat}{M:l8}(h:p7 n 1 M):∀c,c<=5->(RK e M c).2<=c/\(RK e M c).1.length=JL M/\(RK e M c).2<=JL M/\p7 n (Rf (RK e M c).2) (RK e M c).1
 | 0,_=>⟨i8 _,rfl,gi _,h⟩
 | c+1,hc=>by
   have⟨h1,K,h3,H⟩:=kl E h c j0
   show(Ik e c (RK e M c)).2<=c+1/\(Ik e c (RK e M c)).1.length=JL M/\(Ik e c (RK e M c)).2<=JL M/\p7 n (Rf (Ik e c (RK e M c)).2) (Ik e c (RK e M c)).1;unfold Ik;generalize RK e M c=s at *
   split
   ·next hp =>
    have hb:=iA s.2 j0;have Kt:=(fq hp).1;refine⟨by simp only;omega,by simp only[eC,dV];exact K,by simp only;omega,?_⟩;refine pZ (kt H j0 hp) hb.2.2 VX λp r LC J9 h5 Z=>E _ n c p r hb.1 LC J9 h5 Z
   exact⟨by omega,K,h3,H⟩
def OU(n:Nat)(a b:o3):Prop:=∃u v:Int,u≠0/\v≠0/\∀j,j<n->u*a[j]?.getD 0=v*b[j]?.getD 0
theorem OU.refl(n:Nat)(a:o3):OU n a a:=⟨1,1,by omega,by omega,λ_ _=>rfl⟩
theorem OU.zero{a b:o3}(h:OU n a b)(K:j<n):a[j]?.getD 0=0↔b[j]?.getD 0=0:=by
 obtain⟨u,v,H,E,h⟩:=h;have:=h j K;constructor
 ·intro e;rw[e,Int.mul_zero]at this;rcases Int.mul_eq_zero.1 this.symm with h|h
  ·exact absurd h E
  exact h
 intro e;rw[e,Int.mul_zero]at this;rcases Int.mul_eq_zero.1 this with h|h
 ·exact absurd h H
 exact h
theorem Xg(l:o3):∀(g:Int),(l.foldl gI g)∣g/\∀x∈l,(l.foldl gI g)∣x:=by
 induction l with
 | nil=>intro g;exact⟨Int.dvd_refl _,λx hx=>absurd hx j7⟩
 | cons a l ih =>
   intro g;have⟨E,H⟩:=ih (gI g a);refine⟨Int.dvd_trans E (sR g a),λx hx=>?_⟩;rcases SU.1 hx with rfl|hx
   ·exact Int.dvd_trans E (oK g x)
   exact H x hx
theorem yK(l:o3):∀g:Int,0<=g->0<=l.foldl gI g:=by
 induction l with
 | nil=>exact λg h=>h
 | cons a l ih=>exact λg h=>ih _ (ud g a)
theorem DF{l:o3}(hx:x∈l):x.tdiv (max (Jg l) 1)*max (Jg l) 1=x:=by
 have E:=(Xg l 0).2 x hx;have H:=yK l 0 (Int.le_refl _);change Jg l∣x at E;change 0<=Jg l at H;by_cases hg:Jg l=0
 ·rw[hg]at E⊢;have:x=0:=Int.zero_dvd.1 E;subst this;simp
 rw[show max (Jg l) 1=Jg l by omega];exact Int.tdiv_mul_cancel E
theorem UN{c:Nat}{p q s:o3}(hc:c<n)(hr:JL r=n)(hs:JL s=n)(h:OU n p q)(k:OU n r s)(hp:p[c]?.getD 0≠0):OU n (cJ c p r) (Ed c q s):=by
 have hq:q[c]?.getD 0≠0:=λe=>hp ((h.zero hc).2 e)
 have hz:=k.zero hc;obtain⟨u',v',Of,K,h⟩:=h;obtain⟨u,v,hu,Z,k⟩:=k;unfold cJ;split
 ·next h0 =>
  have s0:=hz.1 h0;refine⟨u*q[c]?.getD 0,v,nr hu hq,Z,λj H=>?_⟩;rw[ki j0,s0];have:=k j H
  grind
 refine⟨u*u'*max (Jg (Ed c p r)) 1,v*v',nr (nr hu Of) j0,nr Z K,λj H=>?_⟩;have E:j<JL (Ed c p r):=by rw[fC];omega
 have e1:((Ed c p r).map λx=>x.tdiv (max (Jg (Ed c p r)) 1))[j]?.getD 0=((Ed c p r)[j]?.getD 0).tdiv (max (Jg (Ed c p r)) 1):=by simp[E]
 have e2:=DF (l:=Ed c p r) (x:=(Ed c p r)[j]?.getD 0) (by rw[Id E];simp);rw[e1,ki (show j<s.length by omega)];have e3:=ki (c:=c) (p:=p) (r:=r) (j:=j) j0;generalize((Ed c p r)[j]?.getD 0).tdiv (max (Jg (Ed c p r)) 1)=z at *;generalize max (Jg (Ed c p r)) 1=G at *;have k1:=k j H;have k2:=k c hc;have h1:=h j H;have h2:=h c hc;rw[e3]at e2;generalize r[j]?.getD 0=rj at *;generalize r[c]?.getD 0=rc at *;generalize s[j]?.getD 0=sj at *;generalize s[c]?.getD 0=sc at *;generalize p[j]?.getD 0=pj at *;generalize p[c]?.getD 0=pc at *;generalize q[j]?.getD 0=qj at *;generalize q[c]?.getD 0=qc at *;have a1:u*u'*G*z=u*u'*(rj*pc-rc*pj):=by rw[<-e2];grind
 rw[a1];have a2:u*u'*(rj*pc-rc*pj)=(u*rj)*(u'*pc)-(u*rc)*(u'*pj):=by grind
 rw[a2,k1,k2,h1,h2]
 grind
structure TN(n:Nat)(M K:l8):Prop where
 len:M.length=K.length
 row:∀i,i<M.length->OU n (M[i]?.getD []) (K[i]?.getD [])
theorem ZB{c:Nat}{K:l8}(hc:c<n)(hd:d<=JL M)(h:TN n M K):Fl M c d=Fl K c d:=by
 by_cases E:Fl M c d<JL M
 ·have⟨Z,H,h3⟩:=fq E;refine(ZP Z (by rw[<-h.len];exact E) (λe=>H (((h.row _ E).zero hc).2 e)) λi hi Tq=>((h.row i j0).zero hc).1 (h3 i hi Tq)).symm
 have⟨Z,H⟩:=jw E hd;rw[Z,h.len];exact(Vi (by rw[<-h.len];exact hd) λi hi Tq=>((h.row i (by rw[h.len];exact Tq)).zero hc).1 (H i hi (by rw[h.len];exact Tq))).symm
theorem zY{n:Nat}{M:l8}(h:p7 n 1 M)(hn:n<=5):∀c,c<=n->TN n (RK cJ M c).1 (RK Ed M c).1/\(RK cJ M c).2=(RK Ed M c).2
 | 0,_=>⟨⟨rfl,λi _=>OU.refl _ _⟩,rfl⟩
 | c+1,hc=>by
   have⟨K,h2⟩:=zY h hn c j0;have⟨a1,a2,a3,a4⟩:=kl sF h c j0;have⟨b1,b2,b3,b4⟩:=kl ys h c j0
   show TN n (Ik cJ c (RK cJ M c)).1 (Ik Ed c (RK Ed M c)).1/\(Ik cJ c (RK cJ M c)).2=(Ik Ed c (RK Ed M c)).2;generalize RK cJ M c=s at *;generalize RK Ed M c=t at *;obtain⟨S,d⟩:=s;obtain⟨T,d'⟩:=t;simp only at *;subst h2;have KK:=ZB (show c<n by omega) (show d<=JL S by omega) K;unfold Ik;simp only;rw[<-KK];by_cases H:Fl S c d<JL S
   ·rw[f9 H,f9 (by rw[<-K.len];exact H)];have⟨p1,p2,p3⟩:=fq H;have hlen:=K.len;have E:d<JL S:=by omega
    refine⟨⟨by simp[eC,dV,hlen],λi hi=>?_⟩,rfl⟩;rw[eC,dV]at hi;have sw:∀i,i<JL S->OU n ((BB S d (Fl S c d))[i]?.getD []) ((BB T d (Fl S c d))[i]?.getD []):=by
     intro i hi;have e1:=kH E H i;have e2:=kH (l:=T) (show d<JL T by omega) (show Fl S c d<JL T by omega) i;change(BB S d (Fl S c d))[i]?.getD []=_ at e1;change(BB T d (Fl S c d))[i]?.getD []=_ at e2;rw[e1,e2]
     split
     ·exact K.row d E
     split
     ·exact K.row _ H
     exact K.row i hi
    rw[iV _ _ _ _ _ (by rw[dV];exact hi),iV _ _ _ _ _ VX,<-hlen]
    split
    ·next hdi =>
     have g1:=kt a4 E H;have g2:=kt b4 (show d<JL T by omega) (show Fl S c d<JL T by omega);refine UN j0 (g1 i (by rw[dV];exact hi)).1 (g2 i VX).1 (sw d E) (sw i hi) ?_;have e1:=kH E H d;change(BB S d (Fl S c d))[d]?.getD []=_ at e1;rw[e1];by_cases Z:d=Fl S c d
     ·rw[f9 Z];rw[<-Z]at p2;exact p2
     rw[f7 Z,f9 rfl];exact p2
    exact sw i hi
   rw[f7 H,f7 (by rw[<-K.len];exact H)];exact⟨K,rfl⟩
def G8(n:Nat)(s:Int):o3:=(List.range n).map λ(k:Nat)=>D3 (Gd s (k:Int))
theorem mb(n:Nat)(s:Int):JL (G8 n s)=n:=by simp[G8]
theorem tU(n:Nat)(s:Int):G8 n s++[D3 (Gd s (n:Int))]=G8 (n+1) s:=by simp[G8,rN]
theorem mh(n:Nat)(l:o3):p7 n 1 (l.map (G8 n)):=by
 intro i hi;have H:i<JL l:=by simpa using hi
 have e:(l.map (G8 n))[i]?.getD []=G8 n (l[i]):=by simp[H]
 rw[e];refine⟨mb _ _,λj=>?_⟩;by_cases E:j<n
 ·simp only[G8,vM,TA E,yl,Nm];unfold D3;split<;>omega
 rw[q8 (by rw[mb];omega)];simp
def gu(n:Int)(l:o3):Int:=if A4 n 1 5=true then((RK cJ (l.map (G8 n.toNat)) n.toNat).2:Int) else 0
def jS(n:Int)(l:o3):Int:=if A4 n 1 5=true then((RK Ed (l.map (G8 n.toNat)) n.toNat).2:Int) else 0
theorem CY(n:Int)(l:o3):gu n l=jS n l:=by
 unfold gu jS;split
 ·next h =>
  simp only[A4,eI,ef]at h;rw[(zY (mh n.toNat l) j0 n.toNat (i8 _)).2]
 rfl
structure Io(w:J)(base:Nat)(a:l9)(N cap:Nat)(vs:List arQ)(M:l8):Prop where
 own:DQ w base (GI a N cap) vs
 rows:bF w base vs M
theorem Io.GW{cap:Nat}(h:Io w base a N cap vs M):JL vs=N:=h.own.len
theorem Io.len{cap:Nat}(h:Io w base a N cap vs M):JL M=N:=by rw[<-h.rows.len];exact h.own.len
theorem Io.cap{w:J}{base:Nat}{a:l9}{N cap:Nat}{vs:List arQ}{M:l8}(h:Io w base a N cap vs M):N<=cap/\cap<=9223372036854775807:=by
 have⟨a',c',E,h1,H⟩:=h.own.form;simp only[nP]at E;obtain⟨_,h3,rfl⟩:=E;exact⟨by omega,H⟩
theorem Io.ext{w':J}{cap:Nat}(h:Io w base a N cap vs M)(hx:C7 w w'):Io w' base a N cap vs M:=⟨h.own.ext hx,h.rows.ext hx⟩
theorem Io.Kq{cap:Nat}(h:Io w base a N cap vs M):dB w a N cap M :=
 bZ.Kq ⟨vs,h.own,h.rows⟩
def hY(h:σ:=by
 rcases h.own.2 with⟨he,h0⟩|⟨g,cap',cur,he,hb,hg,_⟩
 ·simp only[nP]at he;omega
 ·simp only[nP]at he;obtain⟨rfl,_⟩:=he;exact⟨g,rfl,hb,In hg,λj=>mo w g j cur _ hg⟩
 ):σ:=h
theorem Io.outer{cap:Nat}(h:Io w base a N cap vs M)(hN:0<N):∃G,a=some (O G 0)/\base<=G/\G<w.heap.size/\∀j,w.frozen? (O G j)=false:=by
 exact hY
def Wz(h:σ:=by
 have hr:=h.rows.row i (by rw[h.len];exact hi);have⟨a',c,he,Eu,GU⟩:=hr.form;rw[he]at hr;rw[hn]at he hr Eu;obtain⟨g,rfl,hb,_,JK⟩:=hr.block (k:=0) j0;obtain⟨G',hG,_,hc⟩:=h.own.cell hi;simp only[bq,H4,E5]at hG;subst hG;refine⟨g,c,he,?_,hr,λe=>hr.apart h.own g rfl RO,hb,JK,Eu,GU⟩;rw[hc i hi,<-he];have:i<vs.length:=by rw[h.GW];exact hi
 simp[this]
 ):σ:=h
theorem Io.row{cap:Nat}(h:Io w base (some ⟨G,0,none⟩) N cap vs M)(hi:i<N)(hn:JL (M[i]?.getD [])=n)(h1:1<=n):
 ∃g c,vs[i]?.getD undef=GI (some ⟨g,0,none⟩) n c/\w.cell? ⟨G,i,none⟩=some (GI (some ⟨g,0,none⟩) n c)/\r' w base (GI (some ⟨g,0,none⟩) n c) (M[i]?.getD [])/\g≠G/\base<=g/\g<w.heap.size/\n<=c/\c<=9223372036854775807:=by
 exact Wz
def Ht(h:σ:=by
 subst e;rcases Nat.lt_or_gt_of_ne G4 with hlt|hlt
 ·exact h.rows.apart k i _ hlt Jr hb (by rw[hv];rfl)
 ·exact h.rows.apart i k _ hlt hk (by rw[hv];rfl) hb
 ):σ:=h
theorem Io.Mj{cap:Nat}(h:Io w base (some (O G 0)) N cap vs M){g c:Nat}(hi:i<N)(hv:vs[i]?.getD undef=EQ g n c)(j:Nat)(x:Int):
 Io (w.setCell (O g j) (U x)) base (some (O G 0)) N cap vs (M.set i ((M[i]?.getD []).set j x)):=by
 have Jr:i<JL M:=by rw[h.len];exact hi
 have hr:=h.rows.row i Jr;rw[hv]at hr;have YS:g≠G:=λe=>hr.apart h.own g rfl RO
 refine⟨h.own.keep λk hk=>GE _ _ _ _ Qq,?_⟩;refine⟨by rw[k7];exact h.rows.len,λk hk=>?_,λa b k E hb=>h.rows.apart a b k E (by rw[k7]at hb;exact hb)⟩;rw[k7]at hk;by_cases G4:k=i
 ·subst G4;rw[hv,vY Jr];exact hr.set j x
 rw[sq (yx G4)];refine(h.rows.row k hk).keep λb hb=>GE _ _ _ _ λe=>?_;exact Ht
def Ts(h:σ:=by
 rw[k7]at Ew;by_cases hai:a=i
 ·subst hai;rw[vY LR]at hk;rw[sq j0]at o7;have h1:=(ho.lt k hk).1;have h2:=((h.rows.row b Ew).lt k o7).2;omega
 ·rw[sq (yx hai)]at hk;by_cases Hi:b=i
  ·subst Hi;rw[vY LR]at o7;have h1:=(ho.lt k o7).1;have h2:=((h.rows.row a j0).lt k hk).2;omega
  rw[sq (yx Hi)]at o7;exact h.rows.apart a b k Tt Ew hk o7
 ):σ:=h
def Wy(h:σ:=by
 rw[k7]at hk;by_cases G4:k=i
 ·subst G4;rw[vY LR,vY Jr];exact(ho.keep λb SI=>KM b (k8 ((ho.lt b SI).1))).mono hb
 ·rw[sq (yx G4),sq (yx G4)];refine(hW.rows.row k hk).keep λb SI=>KM b λe=>?_;subst e;exact(hW.rows.row k hk).apart hW.own _ SI rfl
 ):σ:=h
theorem Io.put{w0:J}{cap:Nat}(h:Io w0 base (some (O G 0)) N cap vs M)(hx:C7 w0 w)(hb:base<=w0.heap.size){v:arQ}{l:o3}(ho:r' w w0 v l)(hi:i<N):
 Io (w.setCell (O G i) v) base (some (O G 0)) N cap (vs.set i v) (M.set i l):=by
 have Jr:i<JL M:=by rw[h.len];exact hi
 have LR:i<JL vs:=by rw[h.GW];exact hi
 have hW:=h.ext hx;obtain⟨G',E,MQ,Tv,_⟩:=h.outer j0;obtain rfl:=AA E;have KM:∀k,k≠G->(w.setCell (O G i) v).heap[k]?=w.heap[k]?:=λk hk=>GE _ _ _ _ hk
 refine⟨?_,⟨by rw[k7,k7];exact h.rows.len,λk hk=>?_,λa b k Tt Ew hk o7=>?_⟩⟩
 ·have ho:=hW.own;unfold DQ at ho;rw[hW.GW]at ho;have:=(Yk ho i v).1;unfold DQ;rw[k7,hW.GW];exact this
 ·exact Wy
 exact Ts
def Rr(l:List arQ)(a b:Nat):List arQ:=(l.set a (l[b]?.getD undef)).set b (l[a]?.getD undef)
theorem yq(l:List arQ)(a b:Nat):JL (Rr l a b)=JL l:=by simp[Rr]
theorem lT{l:List arQ}{a:Nat}(K:a<JL l)(hb:b<JL l)(i:Nat):(Rr l a b)[i]?.getD undef=if i=b then l[a]?.getD undef else if i=a then l[b]?.getD undef else l[i]?.getD undef:=by
 unfold Rr;by_cases H:i=b
 ·subst H;rw[f9 rfl,vY (by simp[hb])];rfl
 rw[f7 H,sq (yx H)];by_cases E:i=a
 ·subst E;rw[f9 rfl,vY K];rfl
 rw[f7 E,sq (yx E)]
theorem bF.apart'(h:bF w base vs L)(Z:i≠j)(hi:i<JL L)(K:j<JL L)(H:(vs[i]?.getD undef).ownBlock=some k):(vs[j]?.getD undef).ownBlock≠some k:=by
 rcases Nat.lt_or_gt_of_ne Z with E|E
 ·exact h.apart i j k E K H
 exact λe=>h.apart j i k E hi e H
theorem Io.swap{cap:Nat}(h:Io w base (some (O G 0)) N cap vs M){a:Nat}(ha:a<N)(hb:b<N):
 Io ((w.setCell (O G a) (vs[b]?.getD undef)).setCell (O G b) (vs[a]?.getD undef)) base (some (O G 0)) N cap (Rr vs a b) (BB M a b):=by
 have K:a<JL M:=by rw[h.len];exact ha
 have PJ:b<JL M:=by rw[h.len];exact hb
 have Z:a<JL vs:=by rw[h.GW];exact ha
 have FG:b<JL vs:=by rw[h.GW];exact hb
 have z8:∀i,i<JL M->(BB M a b)[i]?.getD []=if i=b then M[a]?.getD [] else if i=a then M[b]?.getD [] else M[i]?.getD []:=λi _=>kH K PJ i
 have KM:∀k,k≠G->((w.setCell (O G a) (vs[b]?.getD undef)).setCell (O G b) (vs[a]?.getD undef)).heap[k]?=w.heap[k]?:=λk E=>by rw[GE _ _ _ _ E,GE _ _ _ _ E]
 refine⟨?_,⟨by rw[yq,dV];exact h.rows.len,λi hi=>?_,λi j k Q9 hj E o7=>?_⟩⟩
 ·have ho:=h.own;unfold DQ at ho;rw[h.GW]at ho;have h1:=(Yk ho a (vs[b]?.getD undef)).1;have h2:=(Yk h1 b (vs[a]?.getD undef)).1;unfold DQ;rw[yq,h.GW];exact h2
 ·rw[dV]at hi;have H:∀k,k<JL M->r' ((w.setCell (O G a) (vs[b]?.getD undef)).setCell (O G b) (vs[a]?.getD undef)) base (vs[k]?.getD undef) (M[k]?.getD []):=λk E =>
   (h.rows.row k E).keep λc hc=>KM c λe=>by subst e;exact(h.rows.row k E).apart h.own _ hc rfl
  rw[lT Z FG,z8 i hi];split
  ·exact H a K
  split
  ·exact H b PJ
  exact H i hi
 rw[dV]at hj;rw[lT Z FG]at E o7;have hi:i<JL M:=j0;have pick:∀i,i<JL M->∃s,s<JL M/\(if i=b then vs[a]?.getD undef else if i=a then vs[b]?.getD undef else vs[i]?.getD undef)=vs[s]?.getD undef/\s=(if i=b then a else if i=a then b else i):=λi hi=>by
  split
  ·exact⟨a,K,rfl,rfl⟩
  split
  ·exact⟨b,PJ,rfl,rfl⟩
  exact⟨i,hi,rfl,rfl⟩
 have⟨s,hs,e1,Ua⟩:=pick i hi;have⟨t,ht,e2,e2'⟩:=pick j hj;rw[e1]at E;rw[e2]at o7;refine h.rows.apart' (i:=s) (j:=t) ?_ hs ht E o7;rw[Ua,e2'];split<;>split<;>(try split)<;>(try split)<;>omega
theorem bF.Gx{w':J}{base':Nat}{v:arQ}(h:bF w base vs L){us:List arQ}(H:DQ w base' v us)(hg:w.grownBy w' v.ownBlock):bF w' base vs L :=
 h.keep λi k hi E=>hg.block k ((h.row i hi).lt k E).2 λe=>(h.row i hi).apart H k E e.symm
theorem dB.at'{cap:Nat}(h:dB w (some (O G 0)) N cap L)(E:k<N):
 ∃a m c,w.cell? (O G k)=some (GI a m c)/\d9 w a m c (L[k]?.getD []):=by
 have⟨b,off,a,m,c,H,hc,hr⟩:=h.at E;obtain⟨rfl,rfl⟩:=aM H;rw[hI]at hc;exact⟨a,m,c,hc,hr⟩
theorem dB.RY{cap:Nat}(h:dB w (some (O G 0)) N cap L)(hd:d<=N):dB w (if cap=d then some (O G 0) else some (O G d)) (N-d) (cap-d) (L.drop d):=by
 refine⟨by rw[Lr,h.hlen],by have:=h.r8;omega,by have:=h.r9;omega,λk E=>?_⟩;have hc:¬cap=d:=k8 h.r8;rw[f7 hc];refine⟨G,d,rfl,λk E=>?_⟩;have⟨a,m,c,K,H⟩:=h.at' (k:=d+k) j0;refine⟨a,m,c,K,?_⟩;rw[XJ];exact H
end
section
variable{w w' w1 w2:J}{a:l9}{n k base base' N i b b1 b2:Nat}{l B:l7}{fid:FuncId}{L M:List (l7)}{v v' x y z:arQ}{vs us:List arQ}{A:l8}{α:Type}{t:TypeId}
def Yz(P:Program)(w:J)(fid:FuncId)(ca:Array arQ)(p:o4->Bool):Prop :=
 ∀x y (w1:J),C7 w w1->Calls P fid (#[EF x y]++ca) w1 λe w2=>e=ar (bl (p (x,y)))/\C7 w1 w2
def k5(h:σ:=by
 rintro e w2 ⟨rfl,C4⟩;go_wp2;go_ret;exact⟨au HF.symm,HX.trans C4⟩
 ):σ:=h
theorem SY{cap:Nat}{ca:Array arQ}{p:o4->Bool}(h:i6 w a n cap l)(hg:NE prog fid)(hf:Yz prog w fid ca p):
 f8 213 #[GI a n cap,.func (.func fid) #[] ca] w (U (dg p l)):=by
 have⟨hn,hm⟩:=h.aq9;refine t8 h.hlen h hf λHL HI K=>?_;clear h hf;have Tr:∀(args:Array arQ) (w:J),(callFunc fid args).run prog w=.ok (.enter fid args) w:=hg;unfold f8;go_in
 go_wp2
 go_loopg [8] n (λgk ii wr=>∃k:Nat,b9 (gk+k=n)/\ii=U k/\b9 ((l.take k).all (λx=>!p x)=true)/\b9 (C7 w wr))
 ·exact N0
 obtain⟨k,HK,rfl,Z,HX⟩:=hrel;by_cases hlt:k<n
 ·obtain⟨b,off,x,y,rfl,E,D1,Eu⟩:=(HI.ext HX).at hlt;have H:=I (K x y wr HX);cases hb:p (x,y)
  all_goals
   rw[hb]at H
  ·have HT:=I (show(l.take (k+1)).all (λx=>!p x)=true by
    rw[xl JO,tn,Z.o];have:l[k]' JO=(x,y):=by rw[Id JO]at E;simpa using E
    rw[this];simp[hb])
   clear E hb;go_wp2_with fail;refine IR H λw2 C4=>?_;exact Ob
  have HF:b9 (dg p l=k):=fJ (d:=(0,0)) JO Z.o (by rw[E];exact hb);clear E hb;go_wp2_with fail;refine H.mono ?_;exact k5
 have HT:=I (show dg p l=-1 by
  have h2:=Z.o;rw[bR o1]at h2;exact eD h2)
 go_wp2;go_ret;exact⟨au HT.symm,HX⟩
theorem gU{cap:Nat}{ca:Array arQ}{p:o4->Bool}(h:i6 w a n cap l)(hg:NE prog fid)(E:Yz prog w fid ca p):
 f8 141 #[GI a n cap,.func (.func fid) #[] ca] w (bl (l.any p)):=by
 have HC:=I (SY h hg E);clear h E;exact YQ
theorem yN(x y:Int)(w:J):f8 238 #[EF x y] w (bl (!z7 (x,y))):=by
 have X2:=I (C7.alloc w (QD #[U x,U y] 56));unfold f8;go_in
 go_wp2_with fail;refine IR (cH x y _) λw1 hx=>?_;exact P3
theorem wi:NE prog 238:=cR func238 j8 j8
theorem mi{cap:Nat}(h:i6 w a n cap l):
 f8 164 #[GI a n cap] w (bl (FM l)):=by
 have K:=I (gU h wi (ca:=#[]) (p:=λr=>!z7 r) (λx y w1 _=>yN x y w1));have H:=I (show(!l.any (λr=>!z7 r))=FM l by unfold FM;rw[xy];simp);clear h;unfold f8;go_in
 go_wp2_with fail;refine i7 K λw1 E=>?_;go_wp2;go_ret;exact⟨ag H.o,E⟩
theorem th(x y:Int)(w:J):f8 317 #[EF x y] w (bl (!(z7 (x,y)&&decide (0<=x)))):=by
 have X2:=I (C7.alloc w (QD #[U x,U y] 56));have E:=I (λw=>cH x y w);cases H:z7 (x,y)
 ·rw[H]at E;clear H;unfold f8;go_in
  go_wp2_with fail;refine IR (E _) λw1 hx=>?_;exact P3
 rw[H]at E;clear H;cases K:decide (0<=x)
 ·have Z:decide (x<0)=true:=by simp at K⊢;omega
  clear K;unfold f8;go_in
  go_wp2_with fail;refine IR (E _) λw1 hx=>?_;have hc:w1.cell? (O w 0)=some (U x):=hx.o6 j7;exact P3
 have Z:decide (x<0)=false:=by simp at K⊢;omega
 clear K;unfold f8;go_in
 go_wp2_with fail;refine IR (E _) λw1 hx=>?_;have hc:w1.cell? (O w 0)=some (U x):=hx.o6 j7;exact P3
theorem qZ:NE prog 317:=cR func317 j8 j8
theorem mZ{cap:Nat}(h:i6 w a n cap l)(m:Nat):
 f8 278 #[GI a n cap,U m] w (bl (decide (JL l=m)&&J3 l)):=by
 have⟨r8,r9⟩:=h.aq9;refine t8 h.hlen (gU h qZ (ca:=#[]) (p:=λr=>!(z7 r&&decide (0<=r.1))) (λx y w1 _=>th x y w1)) (show(!l.any (λr=>!(z7 r&&decide (0<=r.1))))=J3 l by unfold J3;rw[xy];simp) λH HC Z=>?_;clear h;cases E:((n:Int) == (m:Int))
 ·have HN:=I (show decide (JL l=m)=false by rw[H.o];simp at E⊢;omega);unfold f8;go_in
  go_wp2;go_ret;exact⟨ag cF,WF⟩
 have HN:=I (show decide (JL l=m)=true by rw[H.o];simp at E⊢;omega);unfold f8;go_in
 go_wp2_with fail;refine i7 HC λw1 K=>?_;go_wp2;go_ret;exact⟨ag (by rw[HN.o,<-Z.o];simp),K⟩
structure jf(w:J)(a:l9)(n cap:Nat)(L:List (l7)):Prop where
 hlen:L.length=n
 r8:n<=cap
 r9:cap<=9223372036854775807
 cell:∀k,k<n->∃b off,a=some (O b off)/\∀k,k<n->∃a' n' c',w.cell? (O b (off+k))=some (GI a' n' c')/\i6 w a' n' c' (L[k]?.getD [])
theorem jf.aq9{w:J}{a:l9}{n cap:Nat}{L:List (l7)}(h:jf w a n cap L):n<=cap/\cap<=9223372036854775807:=⟨h.r8,h.r9⟩
theorem jf.ext{cap:Nat}(h:jf w a n cap L)(hx:C7 w w'):jf w' a n cap L :=
 ⟨h.hlen,h.r8,h.r9,λk E=>let⟨b,off,e,hc⟩:=h.cell k E;⟨b,off,e,λk E=>let⟨a',H,c',Z,K⟩:=hc k E;⟨a',H,c',hx.o6 Z,K.ext hx⟩⟩⟩
theorem jf.at{cap:Nat}(h:jf w a n cap L)(Z:k<n):
 ∃b off K E H,a=some (O b off)/\w.cell? (O b (off+k))=some (GI K E H)/\i6 w K E H (L[k]?.getD []) :=
 let⟨b,off,e,hc⟩:=h.cell k Z;let⟨K,E,H,h1,h2⟩:=hc k Z;⟨b,off,K,E,H,e,h1,h2⟩
def Gr(w:J)(base:Nat)(v:arQ)(vs:List arQ):Prop:=w.ownsRow base 32 1 v (JL vs) vs
theorem Gr.form(h:Gr w base v vs):∃a cap,v=GI a (JL vs) cap/\JL vs<=cap/\cap<=9223372036854775807:=by
 exact j'
theorem Gr.var(h:Gr w base v vs):∃a n cap,v=GI a n cap/\b9 (JL vs=n):=by
 obtain⟨a,cap,e,_⟩:=h.form;exact⟨a,_,cap,e,rfl⟩
theorem Gr.cell{cap:Nat}(h:Gr w base (GI a n cap) vs)(hk:k<n):∃g,a=some (O g 0)/\base<=g/\∀k,k<n->w.cell? (O g k)=vs[k]?:=by
 exact LS
theorem Gr.len{cap:Nat}(h:Gr w base (GI a n cap) vs):JL vs=n:=by
 exact YA
theorem Gr.lt(h:Gr w base v vs):∀k,v.ownBlock=some k->base<=k/\k<w.heap.size:=YB h
theorem Gr.keep(h:Gr w base v vs)(hk:∀k,v.ownBlock=some k->w'.heap[k]?=w.heap[k]?):Gr w' base v vs:=by
 exact VO
theorem Gr.ext(h:Gr w base v vs)(hx:C7 w w'):Gr w' base v vs:=h.keep λk E=>hx.block k (h.lt k E).2
theorem WV.apart(h:WV w base v l)(h':Gr w base' v' vs):∀k,v.ownBlock=some k->v'.ownBlock≠some k:=by
 exact I4
theorem Tryz.VO:(prog.info? 32).map (λi=>(i.zero,i.size,i.bytes))=some (some d6,1,24):=by kernel_rfl
section
variable{P:Program}{w:J}{ops:Array Oper}{rest:List Oper}{o:Oper}{a:Act}{Q:Exit->Act->J->Prop}
theorem fT{K:Act->J->Prop}(s x:Operand)(ho:o.op=.call { callee:=.builtin .append,args:=#[s,x],argTypes:=#[149,149] })
 (base:Nat) (v:arQ) (vs:List arQ) (hs:a.eval s=v) (Fm:Gr w base v vs) (ad:Addr) (u:arQ) (c:Nat) (hx:a.eval x=GI (some ad) 1 c)
 (E:w.cell? ad=some u) (h1c:u.oneCell'=true) (hb:JL vs<=1099511627775) (H:base<=w.heap.size)
 (h:∀v' w',Gr w' base v' (vs++[u])->w.grownBy w' v.ownBlock->Hx w v v'->K (a.put o.dst v') w'):o.wp prog a w K Q:=by
 have⟨i,hi,F8,Li,J6⟩:=X' Tryz.VO;refine fI w s x 149 ho base 32 i d6 1 24 Tryz.underlying149 hi F8 Li J6 rfl Fd v (JL vs) vs hs Fm ad 1 c [u] hx rfl ?_ ?_ YZ j0 H ?_
 ·intro j u' Z
  match j with
  | 0=>simpa[Addr.add]using Z▸E
  | j+1=>simp at Z
 ·intro u' Z;simp only[Se]at Z;rw[Z];exact h1c
 intro v' w' h1 h2 h3;refine h v' w' ?_ h2 h3;unfold Gr;rw[SW];exact h1
end
structure ev(w:J)(base:Nat)(vs:List arQ)(L:List (l7)):Prop where
 len:vs.length=L.length
 row:∀i,i<L.length->WV w base (vs[i]?.getD undef) (L[i]?.getD [])
 apart:∀i j k,i<j->j<L.length->(vs[i]?.getD undef).ownBlock=some k->(vs[j]?.getD undef).ownBlock≠some k
theorem ev.keep(h:ev w base vs L)(E:∀i k,i<JL L->(vs[i]?.getD undef).ownBlock=some k->w'.heap[k]?=w.heap[k]?):ev w' base vs L :=
 ⟨h.len,λi hi=>(h.row i hi).keep λk H=>E i k hi H,h.apart⟩
theorem ev.ext(h:ev w base vs L)(hx:C7 w w'):ev w' base vs L :=
 h.keep λi k hi E=>hx.block k ((h.row i hi).lt k E).2
theorem ev.nil(w:J)(base:Nat):ev w base [] []:=⟨rfl,λi hi=>absurd hi j7,λi j k _ E=>absurd E j7⟩
theorem ev.snoc(h:ev w base vs L)(hx:C7 w w')(ho:WV w' w v l)(hb:base<=w.heap.size):ev w' base (vs++[v]) (L++[l]):=by
 exact R9
def qL(w:J)(base:Nat)(v:arQ)(L:List (l7)):Prop:=∃vs,Gr w base v vs/\ev w base vs L
theorem qL.form(h:qL w base v L):∃a cap,v=GI a (JL L) cap/\JL L<=cap/\cap<=9223372036854775807:=by
 obtain⟨vs,H,E⟩:=h;have:=H.form
 rwa [E.len]at this
theorem qL.agk{cap:Nat}(h:qL w base (GI a n cap) L):jf w a n cap L:=by
 have⟨a',E,he,h1,h2⟩:=h.form;simp only[nP]at he;obtain⟨rfl,rfl,rfl⟩:=he;obtain⟨vs,h3,K⟩:=h;refine⟨rfl,h1,h2,λk H=>?_⟩;obtain⟨g,rfl,_,hc⟩:=h3.cell H;refine⟨g,0,rfl,λk H=>?_⟩;have hv:k<JL vs:=by rw[K.len];exact H
 obtain⟨a',E,Z,_⟩:=(K.row k H).form;have ho:=K.row k H;rw[Z]at ho;refine⟨a',_,E,?_,ho.rats⟩;rw[hI,hc k H,<-Z];simp[hv]
structure Im(w:J)(base:Nat)(a:l9)(N cap:Nat)(vs:List arQ)(M:List (l7)):Prop where
 own:Gr w base (GI a N cap) vs
 rows:ev w base vs M
theorem Im.GW{cap:Nat}(h:Im w base a N cap vs M):JL vs=N:=h.own.len
theorem Im.len{cap:Nat}(h:Im w base a N cap vs M):JL M=N:=by rw[<-h.rows.len];exact h.own.len
theorem Im.keep{cap:Nat}(h:Im w base a N cap vs M)(K:∀k,(GI a N cap).ownBlock=some k->w'.heap[k]?=w.heap[k]?)
 (H:∀i k,i<N->(vs[i]?.getD undef).ownBlock=some k->w'.heap[k]?=w.heap[k]?):Im w' base a N cap vs M :=
 ⟨h.own.keep K,h.rows.keep λi k hi E=>H i k (by rw[<-h.len];exact hi) E⟩
theorem Im.ext{cap:Nat}(h:Im w base a N cap vs M)(hx:C7 w w'):Im w' base a N cap vs M:=⟨h.own.ext hx,h.rows.ext hx⟩
theorem Im.outer{cap:Nat}(h:Im w base a N cap vs M)(hN:0<N):∃G,a=some (O G 0)/\base<=G/\G<w.heap.size/\∀j,w.frozen? (O G j)=false:=by
 exact hY
theorem Im.row{G cap:Nat}(h:Im w base (some ⟨G,0,none⟩) N cap vs M)(hi:i<N)(hn:JL (M[i]?.getD [])=n)(h1:1<=n):
 ∃g c,vs[i]?.getD undef=GI (some ⟨g,0,none⟩) n c/\w.cell? ⟨G,i,none⟩=some (GI (some ⟨g,0,none⟩) n c)/\WV w base (GI (some ⟨g,0,none⟩) n c) (M[i]?.getD [])/\g≠G/\base<=g/\g<w.heap.size/\n<=c/\c<=9223372036854775807:=by
 exact Wz
theorem Im.put{w0:J}{G cap:Nat}(h:Im w0 base (some (O G 0)) N cap vs M)(hx:C7 w0 w)(hb:base<=w0.heap.size)(ho:WV w w0 v l)(hi:i<N):
 Im (w.setCell (O G i) v) base (some (O G 0)) N cap (vs.set i v) (M.set i l):=by
 have Jr:i<JL M:=by rw[h.len];exact hi
 have LR:i<JL vs:=by rw[h.GW];exact hi
 have hW:=h.ext hx;obtain⟨G',E,MQ,Tv,_⟩:=h.outer j0;obtain rfl:=AA E;have KM:∀k,k≠G->(w.setCell (O G i) v).heap[k]?=w.heap[k]?:=λk hk=>GE _ _ _ _ hk
 refine⟨?_,⟨by rw[k7,k7];exact h.rows.len,λk hk=>?_,λa b k Tt Ew hk o7=>?_⟩⟩
 ·have ho:=hW.own;unfold Gr at ho;rw[hW.GW]at ho;have:=(Yk ho i v).1;unfold Gr;rw[k7,hW.GW];exact this
 ·exact Wy
 exact Ts
theorem C7.store(h:C7 w w')(k:Nat)(hb:w.heap.size<=b)(v:arQ):C7 w (w'.setCell (O b k) v):=W1 h (p:=(O b k)) hb v
theorem C7.grown{w0:J}{row:Option Nat}(h:C7 w0 w)(hg:w.grownBy w' row)(hr:∀k,row=some k->w0.heap.size<=k):C7 w0 w':=aj h hg hr
def Hw(vs:List arQ)(v:arQ):Prop:=∀i k,i<JL vs->(vs[i]?.getD undef).ownBlock=some k->v.ownBlock≠some k
theorem Hw.nil(v:arQ):Hw [] v:=λi k h=>absurd h j7
theorem Hw.near(h:Hw vs v)(hr:bF w base vs A)(K:Hx w v v'):Hw vs v':=by
 intro i k hi E Z;rcases K k Z with H|H
 ·exact h i k hi E H
 have:=((hr.row i (by rw[<-hr.len];exact hi)).lt k E).2;omega
theorem Hw.snoc{B r:o3}{K:arQ}(h:Hw vs v)(hb:r' w base v B)(hr:r' w' w K r):Hw (vs++[K]) v:=by
 intro i k hi E KP;by_cases Z:i<JL vs
 ·rw[tv Z]at E;exact h i k Z E KP
 have H:i=JL vs:=by simp at hi;omega
 subst H;rw[Wo,Nm]at E;have h1:=(hb.lt k KP).2;have h2:=(hr.lt k E).1;omega
structure C9(w:J)(base g:Nat)(va vb vc:arQ)(vs:List arQ)(A:l8)(B:o3)(C:l7):Prop where
 box:w.heap[g]?=some (QD #[va,vb,vc] 105 (0,0))
 hg:base<=g
 a:DQ w base va vs
 rows:bF w base vs A
 b:r' w base vb B
 off:Hw vs vb
 c:WV w base vc C
section
variable{w:J}{base g:Nat}{va vb vc:arQ}{vs:List arQ}{A:l8}{B:o3}{C:l7}
theorem C9.lt(h:C9 w base g va vb vc vs A B C):g<w.heap.size:=In h.box
theorem C9.ext{w':J}(h:C9 w base g va vb vc vs A B C)(hx:C7 w w'):C9 w' base g va vb vc vs A B C :=
 ⟨(hx.block _ h.lt).trans h.box,h.hg,h.a.ext hx,h.rows.ext hx,h.b.ext hx,h.off,h.c.ext hx⟩
theorem C9.c0(h:C9 w base g va vb vc vs A B C):w.cell? (O g 0)=some va:=by rw[aR w g 0 _ _ _ h.box];rfl
theorem C9.c1(h:C9 w base g va vb vc vs A B C):w.cell? (O g 1)=some vb:=by rw[aR w g 1 _ _ _ h.box];rfl
theorem C9.c2(h:C9 w base g va vb vc vs A B C):w.cell? (O g 2)=some vc:=by rw[aR w g 2 _ _ _ h.box];rfl
theorem C9.free(h:C9 w base g va vb vc vs A B C)(k:Nat):w.frozen? (O g k)=false:=mo w g k _ _ h.box
theorem C9.new{w:J}{base:Nat}(hb:base<=w.heap.size):C9 (w.alloc (QD #[d6,d6,d6] 105)) base w d6 (d6) d6 [] [] [] [] :=
 ⟨vC _ _,hb,DQ.nil _ _,bF.nil _ _,C1,Hw.nil _,qj⟩
theorem C9.FF{x y z:arQ}(h:w.heap[g]?=some (QD #[x,y,z] 105 (0,0))):w.cell? (O g 0)=some x:=by rw[aR w g 0 _ _ _ h];rfl
theorem C9.FE{x y z:arQ}(h:w.heap[g]?=some (QD #[x,y,z] 105 (0,0))):w.cell? (O g 1)=some y:=by rw[aR w g 1 _ _ _ h];rfl
theorem C9.F3{x y z:arQ}(h:w.heap[g]?=some (QD #[x,y,z] 105 (0,0))):w.cell? (O g 2)=some z:=by rw[aR w g 2 _ _ _ h];rfl
theorem C9.F2{x y z:arQ}(h:w.heap[g]?=some (QD #[x,y,z] 105 (0,0)))(k:Nat):w.frozen? (O g k)=false:=mo w g k _ _ h
theorem C9.neA(h:C9 w base g va vb vc vs A B C):some g≠va.ownBlock:=aq h.a h.box Fd
theorem C9.neB(h:C9 w base g va vb vc vs A B C):some g≠vb.ownBlock:=aq h.b h.box Fd
theorem C9.neC(h:C9 w base g va vb vc vs A B C):some g≠vc.ownBlock:=aq h.c h.box Fd
theorem C9.neR(h:C9 w base g va vb vc vs A B C){i:Nat}(hi:i<JL A):some g≠(vs[i]?.getD undef).ownBlock:=aq (h.rows.row i hi) h.box Fd
theorem C9.store{w w':J}{k:Nat}{v:arQ}(hb:w.heap[g]?=some (QD #[va,vb,vc] 105 (0,0))):(w.setCell (O g k) v).heap[g]?=some (QD (#[va,vb,vc].setIfInBounds k v) 105 (0,0)):=cE w g k _ _ v hb
def Qr(h:σ:=by
 exact QF.keep λi k hi hk=>Fx k λe=>(aq (QF.row i hi) E4 Fd) RA
 ):σ:=h
def Ug(h:σ:=by
 exact ho.keep λk hk=>Fx k λe=>(aq ho E4 Fd) RA
 ):σ:=h
def WY(h:σ:=by
 exact PL.keep λk hk=>Fx k λe=>(aq PL E4 Fd) RA
 ):σ:=h
def jl(h:σ:=by
 exact hC2.keep λk hk=>Fx k λe=>(aq hC2 E4 Fd) RA
 ):σ:=h
def Q1(h:σ:=by
 have:=C9.store (w:=w2) (w':=w2) (k:=0) (v:=OD) E4;exact this
 ):σ:=h
theorem C9.Lf{w1 w2:J}(h:C9 w base g va vb vc vs A B C)(hx:C7 w w1){E OD:arQ}{r:o3}(hr:r' w1 w E r)(WS:base<=w.heap.size)(H:w1.grownBy w2 va.ownBlock)(ho:DQ w2 base OD (vs++[E]))(hn:Hx w1 va OD):
 C9 (w2.setCell (O g 0) OD) base g OD vb vc (vs++[E]) (A++[r]) B C:=by
 have h1:=h.ext hx;have E4:w2.heap[g]?=some (QD #[va,vb,vc] 105 (0,0)):=(H.block g h1.lt h1.neA).trans h1.box;have Fx:∀k,k≠g->(w2.setCell (O g 0) OD).heap[k]?=w2.heap[k]?:=λk hk=>GE _ _ _ _ hk
 have PL:r' w2 base vb B:=h1.b.keep λk hk=>H.block k (h1.b.lt k hk).2 λe=>h1.b.apart h1.a k hk e.symm
 have hC2:WV w2 base vc C:=h1.c.keep λk hk=>H.block k (h1.c.lt k hk).2 λe=>aL Fd h1.c h1.a k hk e.symm
 have WX:bF w1 base (vs++[E]) (A++[r]):=h.rows.snoc hx hr WS;have QF:bF w2 base (vs++[E]) (A++[r]):=WX.keep λi k hi hk=>H.block k ((WX.row i hi).lt k hk).2 λe=>(WX.row i hi).apart h1.a k hk e.symm
 refine⟨?_,h.hg,?_,?_,?_,h.off.snoc h.b hr,?_⟩
 ·exact Q1
 ·exact Ug
 ·exact Qr
 ·exact WY
 exact jl
def T3(h:σ:=by
 exact hA2.keep λk hk=>Fx k λe=>(aq hA2 E4 Fd) RA
 ):σ:=h
theorem C9.pushB{w1 w2:J}(h:C9 w base g va vb vc vs A B C)(hx:C7 w w1){S9:arQ}{B':o3}(H:w1.grownBy w2 vb.ownBlock)(ho:r' w2 base S9 B')(K:Hx w1 vb S9):
 C9 (w2.setCell (O g 1) S9) base g va S9 vc vs A B' C:=by
 have E:=h.ext hx;have E4:w2.heap[g]?=some (QD #[va,vb,vc] 105 (0,0)):=(H.block g E.lt E.neB).trans E.box;have Fx:∀k,k≠g->(w2.setCell (O g 1) S9).heap[k]?=w2.heap[k]?:=λk hk=>GE _ _ _ _ hk
 have hA2:DQ w2 base va vs:=E.a.keep λk hk=>H.block k (E.a.lt k hk).2 λe=>E.b.apart E.a k e.symm hk
 have hC2:WV w2 base vc C:=E.c.keep λk hk=>H.block k (E.c.lt k hk).2 λe=>aL Fd E.c E.b k hk e.symm
 have QF:bF w2 base vs A:=E.rows.keep λi k hi hk=>H.block k ((E.rows.row i hi).lt k hk).2 λe=>E.off i k (by rw[E.rows.len];exact hi) hk e.symm
 refine⟨?_,h.hg,?_,?_,?_,E.off.near E.rows K,?_⟩
 ·have:=C9.store (w:=w2) (w':=w2) (k:=1) (v:=S9) E4;exact this
 ·exact T3
 ·exact Qr
 ·exact Ug
 exact jl
theorem C9.Sr{w1 w2:J}(h:C9 w base g va vb vc vs A B C)(hx:C7 w w1){H:arQ}{C':l7}(K:w1.grownBy w2 vc.ownBlock)(ho:WV w2 base H C'):
 C9 (w2.setCell (O g 2) H) base g va vb H vs A B C':=by
 have E:=h.ext hx;have E4:w2.heap[g]?=some (QD #[va,vb,vc] 105 (0,0)):=(K.block g E.lt E.neC).trans E.box;have Fx:∀k,k≠g->(w2.setCell (O g 2) H).heap[k]?=w2.heap[k]?:=λk hk=>GE _ _ _ _ hk
 have hA2:DQ w2 base va vs:=E.a.keep λk hk=>K.block k (E.a.lt k hk).2 λe=>aL Fd E.a E.c k hk e.symm
 have PL:r' w2 base vb B:=E.b.keep λk hk=>K.block k (E.b.lt k hk).2 λe=>aL Fd E.b E.c k hk e.symm
 have QF:bF w2 base vs A:=E.rows.keep λi k hi hk=>K.block k ((E.rows.row i hi).lt k hk).2 λe=>aL Fd (E.rows.row i hi) E.c k hk e.symm
 refine⟨?_,h.hg,?_,?_,?_,h.off,?_⟩
 ·have:=C9.store (w:=w2) (w':=w2) (k:=2) (v:=H) E4;exact this
 ·exact T3
 ·exact Qr
 ·exact WY
 exact Ug
theorem cw{w w2:J}{b1 b2:Nat}{e e':TypeId}{s s' n Z:Nat}{v v':arQ}{K E:List arQ}(h:w.ownsRow b1 e s v n K)(h':w.ownsRow b2 e' s' v' Z E)(H:e≠e')(Fo:w.grownBy w2 v'.ownBlock):w2.ownsRow b1 e s v n K :=
 h.kept Fo (by
  cases hv:v.ownBlock with
  | none=>exact .inl rfl
  | some k=>exact .inr λe2=>aL H h h' k hv e2.symm)
theorem bg{w:J}{b1 g k:Nat}{e e':TypeId}{s n:Nat}{v u:arQ}{K:List arQ}{c:Array arQ}{z:Nat×Nat}(h:w.ownsRow b1 e s v n K)(hb:w.heap[g]?=some (QD c e' z))(E:e≠e'):(w.setCell (O g k) u).ownsRow b1 e s v n K:=by
 refine⟨h.1,?_⟩;rcases h.2 with Z|⟨g',cap,H,rfl,FD,Kb,rest⟩
 ·exact .inl Z
 refine .inr ⟨g',cap,H,rfl,FD,?_,rest⟩;rw[GE _ _ _ _ λe2=>by subst e2;exact aq h hb E rfl];exact Kb
theorem C9.OR{w1 w2:J}(h:C9 w base g va vb vc vs A B C)(hx:C7 w w1)(hg:w1.grownBy w2 va.ownBlock):w2.heap[g]?=some (QD #[va,vb,vc] 105 (0,0)):=(hg.block g (h.ext hx).lt (h.ext hx).neA).trans (h.ext hx).box
theorem C9.OQ{w1 w2:J}(h:C9 w base g va vb vc vs A B C)(hx:C7 w w1)(hg:w1.grownBy w2 vb.ownBlock):w2.heap[g]?=some (QD #[va,vb,vc] 105 (0,0)):=(hg.block g (h.ext hx).lt (h.ext hx).neB).trans (h.ext hx).box
theorem C9.aaY{w1 w2:J}(h:C9 w base g va vb vc vs A B C)(hx:C7 w w1)(hg:w1.grownBy w2 vc.ownBlock):w2.heap[g]?=some (QD #[va,vb,vc] 105 (0,0)):=(hg.block g (h.ext hx).lt (h.ext hx).neC).trans (h.ext hx).box
theorem A5.Gx{α:Type}{E:mg α}{t:TypeId}{w w1 w2:J}{b1 b2:Nat}{v v':arQ}{l:List α}{us:List arQ}(h:A5 E t w b1 v l)(hx:C7 w w1)(K:DQ w b2 v' us)(H:t≠29)(Z:w1.grownBy w2 v'.ownBlock):A5 E t w2 b1 v l :=
 cw (h.ext hx) (K.ext hx) H Z
theorem A5.Xa{α:Type}{E:mg α}{t:TypeId}{w w1 w2:J}{b1 b2:Nat}{v v':arQ}{l:List α}{us:o3}(h:A5 E t w b1 v l)(hx:C7 w w1)(K:r' w b2 v' us)(H:t≠3)(Z:w1.grownBy w2 v'.ownBlock):A5 E t w2 b1 v l :=
 cw (h.ext hx) (K.ext hx) H Z
theorem A5.W7{α:Type}{E:mg α}{t:TypeId}{w w1 w2:J}{b1 b2:Nat}{v v':arQ}{l:List α}{us:l7}(h:A5 E t w b1 v l)(hx:C7 w w1)(K:WV w b2 v' us)(H:t≠56)(Z:w1.grownBy w2 v'.ownBlock):A5 E t w2 b1 v l :=
 cw (h.ext hx) (K.ext hx) H Z
theorem A5.UR{α:Type}{E:mg α}{t:TypeId}{w:J}{b1 g:Nat}{v x y z:arQ}{l:List α}(h:A5 E t w b1 v l)(hb:w.heap[g]?=some (QD #[x,y,z] 105 (0,0)))(H:t≠105)(k:Nat)(u:arQ):A5 E t (w.setCell (O g k) u) b1 v l :=
 bg h hb H
end
theorem DQ.mono'(h:DQ w base v vs)(hb:base'<=base):DQ w base' v vs:=by
 exact Wf
theorem bZ.mono'{L:l8}(h:bZ w base v L)(hb:base'<=base):bZ w base' v L :=
 let⟨vs,h1,h2⟩:=h;⟨vs,h1.mono' hb,⟨h2.len,λi hi=>(h2.row i hi).mono hb,h2.apart⟩⟩
theorem r'.Qn{l:o3}{us:l7}(h:r' w b1 v l)(hx:C7 w w1)(E:WV w b2 v' us)(H:w1.grownBy w2 v'.ownBlock):r' w2 b1 v l :=
 cw (h.ext hx) (E.ext hx) Fd H
theorem WV.VJ{us:o3}(h:WV w b1 v l)(hx:C7 w w1)(H:r' w b2 v' us)(K:w1.grownBy w2 v'.ownBlock):WV w2 b1 v l :=
 cw (h.ext hx) (H.ext hx) Fd K
theorem WV.Kp(h:WV w b1 v l)(hx:C7 w w1)(E:DQ w b2 v' us)(H:w1.grownBy w2 v'.ownBlock):WV w2 b1 v l :=
 cw (h.ext hx) (E.ext hx) Fd H
theorem r'.Kp{l:o3}(h:r' w b1 v l)(hx:C7 w w1)(E:DQ w b2 v' us)(H:w1.grownBy w2 v'.ownBlock):r' w2 b1 v l :=
 cw (h.ext hx) (E.ext hx) Fd H
theorem d9.ac2{W:J}(l:o3)(t:TypeId){m:Nat}(hm:JL l=m){cs:Array arQ}(E:cs=bH l)(H:n=W.heap.size)(hb:m<=1099511627776):d9 (W.alloc (QD cs t)) (some (O n 0)) m m l:=by
 subst H E;exact(show nM (W.alloc (QD (bH l) t)) W t l from vC W _).ints hm (i8 _) j0
theorem i6.two(W:J)(x y x' y':Int)(t:TypeId)(E:n=W.heap.size):i6 (W.alloc (QD #[U x,U y,U x',U y'] t)) (some (O n 0)) 2 2 [(x,y),(x',y')]:=by
 subst E;exact⟨rfl,i8 _,by omega,λk H=>⟨_,0,rfl,λk H=>by
  have:k=0∨k=1:=j0;rcases this with rfl|rfl<;>simp⟩⟩
theorem bF.mono'{L:l8}(h:bF w base vs L)(hb:base'<=base):bF w base' vs L:=⟨h.len,λi hi=>(h.row i hi).mono hb,h.apart⟩
theorem C7.blk(hx:C7 w w'){o:Obj}(h:w.heap[b]?=some o):w'.heap[b]?=some o:=(hx.block b (In h)).trans h
theorem uh{row:Option Nat}(hg:w.grownBy w' row){o:Obj}(h:w.heap[b]?=some o)(E:some b≠row):w'.heap[b]?=some o:=(hg.block b (In h) E).trans h
theorem lJ{K:Nat}{c Z:Array arQ}{t':TypeId}{z z':Nat×Nat}(h:w.heap[b]?=some (QD c t z))(H:w.heap[K]?=some (QD Z t' z'))(E:t≠t'):b≠K:=by
 intro e;subst e;rw[h]at H;simp only[bq,Y1]at H;exact E H.2.1
theorem SA(h:w.heap[b]?=some (QD #[x,y] t (0,0))):w.cell? (O b 0)=some x:=by rw[aR w b 0 _ _ _ h];rfl
theorem Kx(h:w.heap[b]?=some (QD #[x,y] t (0,0))):w.cell? (O b 1)=some y:=by rw[aR w b 1 _ _ _ h];rfl
structure Kh(w:J)(a:l9)(na ca:Nat)(b:l9)(nb cb:Nat)(c:l9)(nc cc:Nat)(A:l8)(B:o3)(C:l7):Prop where
 a:dB w a na ca A
 b:d9 w b nb cb B
 c:i6 w c nc cc C
theorem Kh.ext{E ca:Nat}{b:l9}{nb cb:Nat}{c:l9}{nc cc:Nat}{B:o3}{C:l7}(h:Kh w a E ca b nb cb c nc cc A B C)(hx:C7 w w'):Kh w' a E ca b nb cb c nc cc A B C :=
 ⟨h.a.ext hx,h.b.ext hx,h.c.ext hx⟩
abbrev Ig(a:l9)(na ca:Nat)(b:l9)(nb cb:Nat)(c:l9)(nc cc:Nat):arQ:=.agg #[GI a na ca,GI b nb cb,GI c nc cc]
abbrev bT(a:l9)(na ca:Nat)(b:l9)(nb cb:Nat)(c:l9)(nc cc:Nat):Obj:=QD #[GI a na ca,GI b nb cb,GI c nc cc] 105
theorem tX{A:l7}{s:o4}(h:Gy A B k=some s):Gy A B (k+1)=if(cM (A[k]?.getD (0,0)) (B[k]?.getD (0,0))).2=true/\(Ev s (cM (A[k]?.getD (0,0)) (B[k]?.getD (0,0))).1).2=true
 then some (Ev s (cM (A[k]?.getD (0,0)) (B[k]?.getD (0,0))).1).1 else none:=by simp only[Gy,h,mr]
theorem kU{A:l7}(h:Gy A B k=none):∀{n:Nat},k<=n->Gy A B n=none
 | n,hn=>by
   obtain⟨d,rfl⟩:∃d,n=k+d:=⟨n-k,by omega⟩;clear hn
   induction d with
   | zero=>exact h
   | succ d ih=>show(Gy A B (k+d)).bind _=none;rw[ih];rfl
def Ex(o:Option (Int×Int)):(Int×Int)×Bool:=(o.getD (0,0),o.isSome)
def O1(h:σ:=by
 obtain⟨k,p,q,HK,rfl,HB,HT⟩:=hrel;have G5:=HB.c0;have E6:=HB.c1;have PJ:=HB.lt;have adi:=HB.ext.size;by_cases hlt:k<n
 ·have⟨ab,Lu,ax,ay,ha,SJ,Jf,Je⟩:=(HIA.ext (A0.trans HB.ext)).at hlt;have⟨bb,L8,bx,by',hb,EX,NM,NL⟩:=(HIB.ext (A0.trans HB.ext)).at hlt;subst ha hb;obtain⟨mx,my,one,hm⟩:∃x y ok,cM (ax,ay) (bx,by')=((x,y),ok):=⟨_,_,_,rfl⟩;have HM:=I hm;obtain⟨p2,q2,two,Nc⟩:∃u v ok,Ev (p,q) (mx,my)=((u,v),ok):=⟨_,_,_,rfl⟩;have GJ:=I Nc;have F4:=I (show Gy A B (k+1)=if one=true/\two=true then some (p2,q2) else none by rw[tX HT.o,SJ,EX,hm];simp only;rw[Nc]);clear SJ EX hm Nc;go_upto_region 7 with fail
  go_cut [8,9] (λsx so wx=>∃g:Nat,sx=aP (some (O g 0))/\so=bl one/\b9 (ah wr wx g mx my))
  case first =>
   have o7:C7 wr wr.drew:=C7.drew wr;have D0:C7 wr (wr.alloc (QD #[U 0,U 0] 56)).drew:=WU.trans cn;have o8:=I (λ(w':J) (h:C7 wr w')=>(an (h.o6 Jf) (an (h.o6 Je) (an (h.o6 NM) (an (h.o6 NL) h)))))
   go_region_held3 (λw'=>w'.cell? (O ab (Lu+k*2))=some (U ax)/\w'.cell? (O ab (Lu+k*2+1))=some (U ay)/\w'.cell? (O bb (L8+k*2))=some (U bx)/\w'.cell? (O bb (L8+k*2+1))=some (U by')/\C7 wr w')
    (exact Hz)
    (first
      | ((with_reducible refine(qq0 ax ay bx by' _).mono ?_)
         rw[HM.o];rintro e w3 ⟨rfl,C6⟩
         first|(with_reducible have A1:=ah.grow A1 C6)|(with_reducible have A1:=ah.DS C6)|(with_reducible have A1:=ah.DX o7 C6)|skip
         first|(have IX:=A1.c0;have IW:=A1.c1;have Kf:=A1.free)|skip
         have o7:C7 wr w3:=ZC;have FB:=o7.size))
   all_goals(exact Jm)
  obtain⟨g,rfl,rfl,Ee⟩:=hcut;have g0:=Ee.c0;have g1':=Ee.c1;have KQ:=HB.grow Ee.ext;have RW:=KQ.c0;have RV:=KQ.c1;have En:=I KQ;clear G5 E6 Jf Je NM NL KQ;go_wp2_with fail;refine(qq1 p q mx my _).mono ?_;rw[GJ.o];rintro e w4 ⟨rfl,DN⟩;have FI:=I (En.grow DN);have Ek:=I (FI.grow (C7.alloc _ (QD #[U p2,U q2] 56)));have hr:=bO (GA _ Ek.ext);obtain⟨Eb,Eh,Ip⟩:=hr;have FV:=I Ek.ext;have hbf:=Ek.free;have hb5l:=FI.lt;have FY:=FI.ext.size;have h40:=FI.c0;have h41:=FI.c1;have h4f:=FI.free;clear DN g0 g1' RW RV;cases one
  ·have HN:=I (show DZ A B=none by rw[HD.o];exact kU (k:=k+1) (by rw[F4.o];simp) hlt);go_wp2;refine Fn T9 rfl ⟨by rw[HN.o];rfl,(((Ha.trans FV).store 0 (i8 _) _).store 1 (i8 _) _)⟩
  cases two
  ·have HN:=I (show DZ A B=none by rw[HD.o];exact kU (k:=k+1) (by rw[F4.o];simp) hlt);go_wp2;refine Fn T9 rfl ⟨by rw[HN.o];rfl,(((Ha.trans FV).store 0 (i8 _) _).store 1 (i8 _) _)⟩
  have Fh:=I (show Gy A B (k+1)=some (p2,q2)by rw[F4.o];simp);have I':=I ((FI.put p2 q2).grow (C7.alloc _ (QD #[U p2,U q2] 56)));go_wp2_with fail;refine er ?_;exact⟨k+1,p2,q2,I (k8 HK.o),by go_num,I',Fh⟩
 ·have DV:n=k:=by have:=HK.o;omega
  subst DV;have HY:=I (show DZ A B=some (p,q)by rw[HD.o];exact HT);have hr:=bO (GA wr HB.ext);obtain⟨Eb,Eh,Ip⟩:=hr;go_wp2;refine Fn T9 rfl ⟨by rw[HY.o];rfl,(((Ha.trans HB.ext).store 0 (i8 _) _).store 1 (i8 _) _)⟩
 ):σ:=h
def Sn(h:σ:=by
 have HN:=I (show DZ A B=none by unfold DZ;rw[HL.o,OA.o,f7 hne]);have SC:((n:Int) != (n':Int))=true:=by simp;omega
 have hr:=bO DO.o;obtain⟨Eb,Eh,Ip⟩:=hr;(try unfold f8);go_in
 go_wp2;refine Fn LZ rfl ⟨by rw[HN.o];rfl,A8⟩
 ):σ:=h
theorem im{b:l9}{cap n' E:Nat}{A:l7}(h:i6 w a n cap A)(H:i6 w b n' E B):
 f8 276 #[GI a n cap,GI b n' E] w (IN (Ex (DZ A B))):=by
 have HL:=I h.hlen;have OA:=I H.hlen;have r8:=h.r8;have r9:=h.r9;have WO:=H.r8;have Wx:=H.r9;have K:=C7.alloc w (QD #[.int .i64 0,.int .i64 0] 56);refine Op (h.ext K) (H.ext K) K (ai w (QD #[.int .i64 0,.int .i64 0] 56) _ rfl) λHIA HIB A8 DO=>?_;clear h H K;by_cases hne:n=n'
 ·subst hne;have HD:=I (show DZ A B=Gy A B n by unfold DZ;rw[HL.o,OA.o,f9 rfl]);have SC:((n:Int) != (n:Int))=false:=by simp
  (try unfold f8);go_in
  go_wp2_with fail;refine IR (cO 0 _) λw1 Z=>?_;have A0:=I Z;have Ko:=I (ah.new (C7.refl w1) 0 1);have GA:=I (λ(w':J) (hx:C7 w1 w')=>(hx.block _ rk).trans ((A0.block _ (In DO)).trans DO));have Ha:=I (A8.trans A0);have Wi:w.heap.size<w1.heap.size:=by have:=In DO.o;have:=A0.size;omega
  clear Z;go_wp2
  go_loopg [21] n (λgk ii wr=>∃(k:Nat) (p q:Int),b9 (gk+k=n)/\ii=.int .i64 (k:Int)/\b9 (ah w1 wr w1 p q)/\b9 (Gy A B k=some (p,q)))
  ·exact⟨0,0,1,I j0,rfl,Ko,I rfl⟩
  have qq0:=@wD;have qq1:=@kv;have qq2:=@Rj;exact O1
 have qq0:=@Rj;exact Sn
theorem tR{j:Nat}(h:k<JL A):El (A.take k) j++[(A[k]?.getD [])[j]?.getD 0]=El (A.take (k+1)) j:=by
 rw[fw h];simp[El]
def ML(h:σ:=by
 subst IT;obtain⟨eb,DI,rfl,hec⟩:=z8.at hj;have⟨x,hx⟩:=e9 ((A[k]?.getD [])[j]?.getD 0);rw[<-hx]at hec;have HS:=I (show El (A.take k) j++[x]=El (A.take (k+1)) j by rw[hx];exact tR JO);have S2:=I (show(El (A.take k) j).length=k by simp[El];have:=HL.o;omega);have LU:=z8.r8;have hrm:=z8.r9;clear z8 hx
 go_wp2_with (first
  | (at_builtin;refine Ub x HO1 A0 (by rw[S2.o];omega) λa2 n2 c2 w3 Hb X5 EI=>?_))
 refine er ?_;exact⟨k+1,a2,n2,c2,I (k8 HK.o),by go_num,rfl,I (by rw[<-HS.o];exact EI),X5⟩
 ):σ:=h
def JG(h:σ:=by
 go_wp2;go_ret;exact⟨⟨_,rfl,HO1.mono (b7 _)⟩,A8.trans A0.o⟩
 ):σ:=h
theorem wH{E ca:Nat}{b:l9}{nb cb:Nat}{c:l9}{nc cc:Nat}(h:dB w a E ca A){m j:Nat}(hl:∀i,i<E->JL (A[i]?.getD [])=m)(hj:j<m)(hm:m<=1000000)(hbig:E<=1048576):
 Calls prog 277 #[Ig a E ca b nb cb c nc cc,U j] w λe w'=>(∃v,e=ar v/\r' w' w v (El A j))/\C7 w w':=by
 have⟨r8,r9⟩:=h.aq9;have HL:=I h.hlen;have B8:=C7.alloc w (bT a E ca b nb cb c nc cc);refine Op B8 (h.ext B8) hl (r'.D2 (w.alloc (bT a E ca b nb cb c nc cc)) (w+1) _ rfl j7) λA8 HI EW HO=>?_;clear h B8 hl;go_in
 go_wp2
 go_loopg [5,12] E (λgk o ii wr=>∃(k:Nat) (a1:l9) (K H:Nat),b9 (gk+k=E)/\ii=U k/\o=GI a1 K H/\b9 (r' wr (w+1) (GI a1 K H) (El (A.take k) j))/\b9 (C7 (w.alloc (bT a E ca b nb cb c nc cc)) wr))
 ·exact⟨0,_,_,_,I j0,rfl,rfl,I (by simpa[El]using HO.o),I WU⟩
 obtain⟨k,a1,K,H,HK,rfl,rfl,HO1,A0⟩:=hrel;have Z:=A0.size;rw[O6]at Z;by_cases hlt:k<E
 ·obtain⟨gb,Ke,ra,rn,rc,rfl,NI,z8⟩:=(HI.ext A0).at hlt;have IT:rn=m:=by rw[<-z8.hlen];exact EW.o k hlt
  exact ML
 have DV:E=k:=k8 HK.o;subst DV;have HT:b9 (A.take E=A):=bR b6;rw[HT.o]at HO1;exact JG
