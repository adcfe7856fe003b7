import Derived.Test.YtooiaklfmodcbaaGreatDoorRtAllG62
set_option linter.all false
set_option maxHeartbeats 6000000
set_option maxRecDepth 100000
namespace Go.Proofs.YtooiaklfmodcbaaGreatDoor
open Ending renaming returned->ar
open List renaming length->JL
open Obj renaming cells->QD
open Value renaming slice->GI,bool->bl,string->aE,pointer->aP
open Go.RowKit Go.Proofs.Tryz
section
variable{r:G9}{n:Nat}{R:(Nat->Int)->Prop}{V:o3}
def oG(R:(Nat->Int)->Prop)(y:Nat->Rat)(n:Nat):Prop:=∀r,R r->∃m:Int,A7 (λi=>((r i:Int):Rat)*y i) n=(m:Rat)
def R2(R:(Nat->Int)->Prop)(b:Nat->Int)(n:Nat):Prop:=∀z:Nat->Rat,(∀r,R r->A7 (λi=>((r i:Int):Rat)*z i) n=0)->A7 (λi=>((b i:Int):Rat)*z i) n=0
def Sb(b:Nat->Int)(y:Nat->Rat)(n K:Nat):Prop:=∃M:Nat,1<=M/\M<=K/\∃m:Int,(M:Rat)*A7 (λi=>((b i:Int):Rat)*y i) n=(m:Rat)
def vQ(R:(Nat->Int)->Prop)(r:Nat->Int)(n:Nat)(s:Nat->Int):Prop:=∃q,R q/\∀i,s i=r n*q i-q n*r i
theorem kR{p c:Int}{q r s:Nat->Int}(hs:∀i,s i=p*q i-c*r i)(x:Nat->Rat):A7 (λi=>((s i:Int):Rat)*x i) n=(p:Rat)*A7 (λi=>((q i:Int):Rat)*x i) n+(-(c:Rat))*A7 (λi=>((r i:Int):Rat)*x i) n:=by
 rw[<-gK,<-kF];refine bX λi hi=>?_;rw[hs i,Rat.intCast_sub,RB,RB]
 grind
theorem vU{K:Nat}{b r:Nat->Int}{y:Nat->Rat}(hr:R r)(IT:r n≠0)(hy:oG R y (n+1))(hk:R2 R b (n+1))
 (ih:oG (vQ R r n) y n->R2 (vQ R r n) (λi=>r n*b i-b n*r i) n->Sb (λi=>r n*b i-b n*r i) y n K):Sb b y (n+1) ((r n).natAbs*K):=by
 have⟨p,hp⟩:=e9 (r n);have⟨mr,E⟩:=hy r hr;simp only[A7]at E;rw[<-hp]at E IT;have D4:(p:Rat)≠0:=fF IT;unfold vQ at ih;rw[<-hp]at ih⊢;have⟨M,Tu,hM2,m,hm⟩:=ih (by
  rintro s ⟨q,hq,hs⟩;have⟨mq,H⟩:=hy q hq;simp only[A7]at H;refine⟨p*mq-q n*mr,?_⟩;rw[kR hs y,Rat.intCast_sub,RB,RB,<-H,<-E]
  grind)
  (by
    intro z hz;have J6:=hk (λi=>if i=n then-A7 (λi=>((r i:Int):Rat)*z i) n/(p:Rat) else z i) (λq hq=>by
     have h1:=hz (λi=>p*q i-q n*r i) ⟨q,hq,λ_=>rfl⟩;rw[kR (λ_=>rfl) z]at h1;simp only[A7,Pl];have e:A7 (λk=>((q k:Int):Rat)*(if k=n then-A7 (λi=>((r i:Int):Rat)*z i) n/(p:Rat) else z k)) n=A7 (λi=>((q i:Int):Rat)*z i) n:=bX λi hi=>by rw[f7 j0]
     rw[e];generalize A7 (λi=>((q i:Int):Rat)*z i) n=sq at h1⊢;generalize A7 (λi=>((r i:Int):Rat)*z i) n=sr at h1⊢
     grind)
    rw[kR (λ_=>rfl) z];simp only[A7,Pl]at J6;have e:A7 (λk=>((b k:Int):Rat)*(if k=n then-A7 (λi=>((r i:Int):Rat)*z i) n/(p:Rat) else z k)) n=A7 (λi=>((b i:Int):Rat)*z i) n:=bX λi hi=>by rw[f7 j0]
    rw[e]at J6;generalize A7 (λi=>((b i:Int):Rat)*z i) n=sb at J6⊢;generalize A7 (λi=>((r i:Int):Rat)*z i) n=sr at J6⊢
    grind)
 rw[kR (λ_=>rfl) y]at hm;refine⟨p.natAbs*M,?_,EE (i8 _) hM2,?_⟩
 ·have:1<=p.natAbs:=by omega
  exact EE this Tu
 have Z:((p.natAbs:Int):Rat)=(p:Rat)∨((p.natAbs:Int):Rat)=-(p:Rat):=by
  rcases Int.natAbs_eq p with h|h
  ·left;rw[<-h]
  right;rw[<-Rat.intCast_neg];congr 1;omega
 have ahX:((p.natAbs*M:Nat):Rat)=((p.natAbs:Int):Rat)*(M:Rat):=by push_cast;rfl
 have hMc:(((M:Nat):Int):Rat)=(M:Rat):=by push_cast;rfl
 have G:(p:Rat)*(M:Rat)*(A7 (λi=>((b i:Int):Rat)*y i) n+(b n:Rat)*y n)=((m+(M:Int)*(b n*mr):Int):Rat):=by
  rw[Rat.intCast_add,RB,RB,hMc,<-hm,<-E];generalize A7 (λi=>((b i:Int):Rat)*y i) n=sb;generalize A7 (λi=>((r i:Int):Rat)*y i) n=sr
  grind
 rw[ahX];simp only[A7];rcases Z with h|h
 ·exact⟨m+(M:Int)*(b n*mr),by rw[h];exact G⟩
 refine⟨-(m+(M:Int)*(b n*mr)),?_⟩;rw[h,Rat.intCast_neg,<-G]
 grind
theorem tT:∀{n B C:Nat},B<=C->OP n B<=OP n C
 | 0,_,_,_=>i8 _
 | n+1,B,C,h=>EE h (tT (EE (EE (i8 2) h) h))
theorem k3{B:Nat}(h:1<=B):OP n B<=OP (n+1) B:=by
 have H:B<=2*B*B:=by
  have:=EE (i8 B) (show 1<=2*B by omega);rw[Nat.mul_one]at this;rw[X0 (2*B) B];exact this
 have G:OP n B<=OP n (2*B*B):=tT H;have E:=EE h G;rw[Nat.one_mul]at E;exact E
theorem vS{K:Nat}{b:Nat->Int}{y:Nat->Rat}(G:∀r,R r->r n=0)(Z:oG R y (n+1))(E:R2 R b (n+1))(Q:oG R y n->R2 R b n->Sb b y n K):Sb b y (n+1) K:=by
 have H:((0:Int):Rat)=0:=rfl;have hb:((b n:Int):Rat)=0:=by
  have:=E (λi=>if i=n then 1 else 0) (λr hr=>fK λi hi=>by
   by_cases e:i=n
   ·subst e;rw[G r hr,H];grind
   rw[f7 e];grind)
  simp only[A7,Pl]at this;rw[fK (λi hi=>by rw[f7 j0];grind)]at this
  grind
 have⟨M,h1,h2,m,hm⟩:=Q (λr hr=>by
  have⟨m,hm⟩:=Z r hr;simp only[A7]at hm;rw[G r hr,H]at hm;exact⟨m,by rw[<-hm];grind⟩)
  (λz hz=>by
    have:=E (λi=>if i=n then 0 else z i) (λr hr=>by
     simp only[A7,Pl];rw[bX (g:=λi=>((r i:Int):Rat)*z i) (λi hi=>by rw[f7 j0]),hz r hr]
     grind)
    simp only[A7,Pl]at this;rw[bX (g:=λi=>((b i:Int):Rat)*z i) (λi hi=>by rw[f7 j0])]at this
    grind)
 refine⟨M,h1,h2,m,?_⟩;simp only[A7];rw[hb,<-hm]
 grind
theorem ma:∀(n B:Nat) (R:(Nat->Int)->Prop) (b:Nat->Int) (y:Nat->Rat),1<=B->(∀r,R r->∀i,i<n->-(B:Int)<=r i/\r i<=B)->oG R y n->R2 R b n->Sb b y n (OP n B)
 | 0,B,R,b,y,_,_,_,_=>⟨1,i8 _,i8 _,0,by simp only[A7];have e0:((0:Int):Rat)=0:=rfl;rw[e0];grind⟩
 | n+1,B,R,b,y,h1,hB,hy,hk=>by
   by_cases E:∀r,R r->r n=0
   ·have⟨M,K,H,G⟩:=vS E hy hk (ma n B R b y h1 (λr hr i hi=>hB r hr i j0));exact⟨M,K,fy H (k3 h1),G⟩
   obtain⟨r,hr,IT⟩:∃r,R r/\r n≠0:=by
    refine Xb λhh=>E λr hr=>Xb λh=>hh ⟨r,hr,h⟩
   have Q:=hB r hr n j0;have⟨M,K,H,G⟩:=vU hr IT hy hk (ma n (2*B*B) _ _ y (EE (EE (show 1<=2 by omega) h1) h1) (by
    rintro s ⟨q,Z,hs⟩ i hi;rw[hs i];have:=Xw (B:=(B:Int)) j0 Q (hB q Z i j0) (hB q Z n j0) (hB r hr i j0);have e:((2*B*B:Nat):Int)=2*(B:Int)*B:=by push_cast;rfl
    rw[e];exact this))
   exact⟨M,K,fy H (EE j0 (i8 _)),G⟩
theorem T7{p a c r:Int}(E:p=1)(h2:0<=a/\a<=1)(h3:0<=c/\c<=1)(h4:0<=r/\r<=1):-1<=p*a-c*r/\p*a-c*r<=1:=by
 subst E;rcases(by omega:c=0∨c=1)with rfl|rfl<;>omega
theorem Ar(n:Nat)(R:(Nat->Int)->Prop)(b:Nat->Int)(y:Nat->Rat)(G:∀r,R r->∀i,i<n+1->0<=r i/\r i<=1)(K:oG R y (n+1))(Z:R2 R b (n+1)):Sb b y (n+1) (OP n 1):=by
 by_cases E:∀r,R r->r n=0
 ·exact vS E K Z (ma n 1 R b y (i8 _) (λr hr i hi=>by have:=G r hr i j0;omega))
 obtain⟨r,hr,IT⟩:∃r,R r/\r n≠0:=by
  refine Xb λhh=>E λr hr=>Xb λh=>hh ⟨r,hr,h⟩
 have hp:=G r hr n j0;have MM:r n=1:=j0;have⟨M,m1,H,m3⟩:=vU hr IT K Z (ma n 1 _ _ y (i8 _) (by
  rintro s ⟨q,Q,hs⟩ i hi;rw[hs i];exact T7 MM (G q Q i j0) (G q Q n j0) (G r hr i j0)))
 refine⟨M,m1,?_,m3⟩;rw[MM]at H
 simpa using H
theorem uV:∀{m:Nat} {f:Nat->Rat},(∀k,k<m->0<=f k)->A7 f m<=0->∀k,k<m->f k=0
 | 0,_,_,_,k,E=>absurd E j0
 | m+1,f,h,hs,k,E=>by
   have h1:=tO (m:=m) (λk E=>h k j0);have h2:=h m j0;simp only[A7]at hs
   rcases Sy k m with G|G
   ·exact uV (λk E=>h k j0) (by grind) k G
   obtain rfl:k=m:=j0
   grind
theorem Al{A:l8}{B:o3}{C:l7}(h:WT A B C r){j:Nat}(E:j<JL C)(hx:B4 r.X j≠0):A7 (λi=>B4 r.Y i*(MT A i j:Rat)) (JL A)=B4 C j:=by
 have e1:A7 (λi=>B4 r.Y i*((B[i]?.getD 0:Int):Rat)) (JL A)=A7 (λj=>A7 (λi=>B4 r.Y i*((MT A i j:Rat)*B4 r.X j)) (JL A)) (JL C):=by
  rw[lz (λi j=>B4 r.Y i*((MT A i j:Rat)*B4 r.X j))];exact bX λi hi=>by rw[gK,h.row i hi]
 have Z:A7 (λj=>B4 r.X j*(B4 C j-A7 (λi=>B4 r.Y i*(MT A i j:Rat)) (JL A))) (JL C)=0:=by
  have Q:A7 (λj=>B4 r.X j*(B4 C j-A7 (λi=>B4 r.Y i*(MT A i j:Rat)) (JL A))) (JL C)=A7 (λj=>B4 C j*B4 r.X j+(-1)*A7 (λi=>B4 r.Y i*((MT A i j:Rat)*B4 r.X j)) (JL A)) (JL C):=bX λj E=>by
   have:A7 (λi=>B4 r.Y i*((MT A i j:Rat)*B4 r.X j)) (JL A)=B4 r.X j*A7 (λi=>B4 r.Y i*(MT A i j:Rat)) (JL A):=by
    rw[<-gK];exact bX λi hi=>by grind
   rw[this];grind
  rw[Q,kF,<-h.cx,<-e1,<-h.yb]
  grind
 have:=uV (λj E=>by
  have H:=h.x0 j E;have h2:=h.DU j E;exact Rat.mul_nonneg H (by grind)) (show A7 (λj=>B4 r.X j*(B4 C j-A7 (λi=>B4 r.Y i*(MT A i j:Rat)) (JL A))) (JL C)<=(0:Rat)by rw[Z];exact Rat.le_refl) j E
 have K:B4 r.X j*(B4 C j-A7 (λi=>B4 r.Y i*(MT A i j:Rat)) (JL A))=0:=this;rcases Rat.mul_eq_zero.1 K with G|G
 ·exact absurd G hx
 grind
theorem BT{A:l8}{B:o3}{C:l7}(h:WT A B C r)(G:∀j,j<JL C->B4 r.X j≠0->R (λi=>MT A i j)):R2 R (λi=>B[i]?.getD 0) (JL A):=by
 intro z hz;have H:A7 (λi=>((B[i]?.getD 0:Int):Rat)*z i) (JL A)=A7 (λj=>A7 (λi=>z i*((MT A i j:Rat)*B4 r.X j)) (JL A)) (JL C):=by
  rw[lz (λi j=>z i*((MT A i j:Rat)*B4 r.X j))];exact bX λi hi=>by rw[gK,h.row i hi];grind
 rw[H];refine fK λj E=>?_;have e:A7 (λi=>z i*((MT A i j:Rat)*B4 r.X j)) (JL A)=B4 r.X j*A7 (λi=>((MT A i j:Int):Rat)*z i) (JL A):=by
  rw[<-gK];exact bX λi hi=>by grind
 rw[e];by_cases hx:B4 r.X j=0
 ·rw[hx];grind
 rw[hz _ (G j E hx)];grind
theorem UL:∀n:Fin 6,∀s:Fin 32,s.val+1<cN n.val->∃i:Fin 5,i.val<n.val/\M2 ((1+s.val:Nat):Int) i.val=true:=by decide +kernel
theorem yk{f:Nat->Rat}{k:Nat}:∀{m:Nat},k<m->(∀i,i<m->0<=f i)->f k<=A7 f m
 | 0,h,_=>absurd h j0
 | m+1,h,hf=>by
   simp only[A7]
   rcases Sy k m with E|E
   ·have:=yk E (λi hi=>hf i j0);have:=hf m j0
    grind
   obtain rfl:k=m:=j0
   have:=tO (m:=k) (λi hi=>hf i j0)
   grind
theorem sD(c:Rat):∀m:Nat,A7 (λ_=>c) m=(m:Rat)*c
 | 0=>by simp only[A7];have:((0:Nat):Rat)=0:=rfl;rw[this];grind
 | m+1=>by
   simp only[A7];rw[sD c m];have:((m+1:Nat):Rat)=(m:Rat)+1:=by push_cast;rfl
   rw[this];grind
def W9{P:Prop}(h:P:=by
 rw[gK]at this;have Ku:((n'+1:Nat):Rat)<=((5:Nat):Rat):=by exact_mod_cast hn
 have e5:((5:Nat):Rat)=5:=rfl
 grind
 ):P:=h
theorem Xy(FT:1<=n)(hn:n<=5)(hV:JL V=cN n)(hb:∀x∈V,-500<=x/\x<=500)(hc:WT (dM n (cN n)) (dY n) (aW V) r):
 ∃(M:Nat) (m:Int),1<=M/\M<=2048/\(M:Rat)*val r.value=(m:Rat)/\m.natAbs<=2500*M:=by
 have Mu:=bp n hn;have H:JL (dM n (cN n))=n:=by unfold dM EL;simp
 have hCl:JL (aW V)=cN n-1:=by unfold aW;rw[dc,Lr,hV]
 have G:∀j,j<cN n-1->B4 (aW V) j=((- (V[1+j]?.getD 0):Int):Rat):=λj E=>by
  have hl:1+j<JL V:=j0;have e:(aW V)[j]?.getD (0,0)=(-(V[1+j]?.getD 0),1):=by
   unfold aW;rw[vM,XJ,Id hl];rfl
  unfold B4;rw[e,fz]
 obtain⟨n',rfl⟩:∃n',n=n'+1:=⟨n-1,by omega⟩;have⟨M,m1,m2,m,hm⟩:=Ar n' (λf=>∃j,j<cN (n'+1)-1/\B4 r.X j≠0/\f=λi=>MT (dM (n'+1) (cN (n'+1))) i j) (λi=>(dY (n'+1))[i]?.getD 0) (λi=>B4 r.Y i)
  (by
    rintro f ⟨j,E,_,rfl⟩ i hi;simp only;rw[pR hi j0 E];exact XC _)
  (by
    rintro f ⟨j,E,hx,rfl⟩;have:=Al hc (j:=j) j0 hx;rw[H,G j E]at this;exact⟨_,by rw[<-this];exact bX λi hi=>by grind⟩)
  (by
    have:=BT hc (R:=λf=>∃j,j<cN (n'+1)-1/\B4 r.X j≠0/\f=λi=>MT (dM (n'+1) (cN (n'+1))) i j) (λj E hx=>⟨j,by omega,hx,rfl⟩);rw[H]at this;exact this)
 have Na:=hc.yb;rw[H]at Na;have e:A7 (λi=>(((dY (n'+1))[i]?.getD 0:Int):Rat)*B4 r.Y i) (n'+1)=val r.value:=by rw[Na];exact bX λi hi=>by grind
 rw[e]at hm;have hd:=V9 ⟨n',by omega⟩;simp only at hd;refine⟨M,m,m1,by omega,hm,?_⟩;have hx:A7 (λj=>B4 r.X j) (cN (n'+1)-1)<=((n'+1:Nat):Rat):=by
  have e1:A7 (λj=>A7 (λi=>(MT (dM (n'+1) (cN (n'+1))) i j:Rat)*B4 r.X j) (n'+1)) (cN (n'+1)-1)=((n'+1:Nat):Rat):=by
   rw[lz (λi j=>(MT (dM (n'+1) (cN (n'+1))) i j:Rat)*B4 r.X j),bX (g:=λ_=>(1:Rat)) (λi hi=>by
    have:=hc.row i j0;rw[hCl]at this;rw[this];unfold dY;rw[Tl,f9 hi];rfl),sD]
   grind
  rw[<-e1];refine oR λj E=>?_;have⟨i,K,Tq⟩:=UL ⟨n'+1,by omega⟩ ⟨j,by omega⟩ aT;have B8:=hc.x0 j j0;have SC:∀k,k<n'+1->0<=(MT (dM (n'+1) (cN (n'+1))) k j:Rat)*B4 r.X j:=λk hk=>by
   rw[pR hk j0 E,vJ];split<;>grind
  have:=yk (k:=i.val) K SC;rw[pR K j0 E,vJ,f9 Tq]at this
  grind
 have MO:=hc.cx;rw[hCl]at MO;have hup:val r.value<=2500:=by
  rw[MO];have:A7 (λj=>B4 (aW V) j*B4 r.X j) (cN (n'+1)-1)<=A7 (λj=>(500:Rat)*B4 r.X j) (cN (n'+1)-1):=oR λj E=>by
   have B8:=hc.x0 j j0;rw[G j E];have hv:=ks hb (1+j);have:((-(V[1+j]?.getD 0):Int):Rat)<=((500:Int):Rat):=WX.2 (show -(V[1+j]?.getD 0)<=500 by omega);have e5:((500:Int):Rat)=500:=rfl;rw[e5]at this;have:=T8 this B8
   grind
  exact W9
 have hlo:-2500<=val r.value:=by
  rw[MO];have:A7 (λj=>(-500:Rat)*B4 r.X j) (cN (n'+1)-1)<=A7 (λj=>B4 (aW V) j*B4 r.X j) (cN (n'+1)-1):=oR λj E=>by
   have B8:=hc.x0 j j0;rw[G j E];have hv:=ks hb (1+j);have:((-500:Int):Rat)<=((-(V[1+j]?.getD 0):Int):Rat):=WX.2 (show(-500:Int)<=-(V[1+j]?.getD 0)by omega);have e5:((-500:Int):Rat)=-500:=rfl;rw[e5]at this;have:=T8 this B8
   grind
  exact W9
 have hM0:(0:Rat)<=(M:Rat):=by exact_mod_cast gi M
 have Z:(((M:Nat):Int):Rat)=(M:Rat):=by push_cast;rfl
 have u1:=T8 hup hM0;have u2:=T8 hlo hM0;rw[hm]at u1 u2;have v1:((m:Int):Rat)<=((2500*(M:Int):Int):Rat):=by rw[RB,Z];have e5:((2500:Int):Rat)=2500:=rfl;rw[e5];grind
 have v2:((-2500*(M:Int):Int):Rat)<=((m:Int):Rat):=by rw[RB,Z];have e5:((-2500:Int):Rat)=-2500:=rfl;rw[e5];grind
 have v1:m<=2500*(M:Int):=WX.1 v1;have v2:-2500*(M:Int)<=m:=WX.1 v2;omega
theorem XH{g:Int}(hs:r.status=1):fd true g r=if 0<DM (C5 r.value) (g,1) then 2 else if((eL g r).2&&(jM g r).2)=true then 1 else 3:=by
 unfold fd;rw[f7 j7,f7 (λh=>h hs)]
theorem XB{g:Int}(hs:r.status=1):fD true g r=if(eL g r).2=false then 3 else if(eL g r).1.1<0 then 2 else if(jM g r).2=true then 1 else 3:=by
 unfold fD;rw[f7 j7,f7 (λh=>h hs)]
theorem Xz{p:Int}:fd (ak p V) (bu p V) (bG az (dM p.toNat (JL V)) (dY p.toNat) (aW V))=fD (ak p V) (bu p V) (bG az (dM p.toNat (JL V)) (dY p.toNat) (aW V)):=by
 cases hg:ak p V with
 | false=>rfl
 | true =>
   obtain⟨n,rfl,h1,h5,hl,_,hb⟩:=ap hg;have⟨r,hr⟩:=e9 (bG az (dM (n:Int).toNat (JL V)) (dY (n:Int).toNat) (aW V));rw[<-hr];by_cases hs:r.status=1
   ·rw[XH hs,XB hs];have G:(bG az (dM n (cN n)) (dY n) (aW V)).status=1:=by rw[<-hl];rw[hr]at hs;exact hs
    obtain⟨s1,_,s3,_,Q,_⟩:=fu G;have H:=JW s1 s3 G;have Z:r=bG az (dM n (cN n)) (dY n) (aW V):=by rw[hr,hl];rfl
    rw[<-Z]at H Q;have⟨M,m,m1,m2,hm,hmb⟩:=Xy h1 h5 hl hb H;have P8:=R7 Q m1 hm;have H9:-500<=bu (n:Int) V/\bu (n:Int) V<=500:=by rw[eT hg];exact ks hb _
    have z1:=P8.size;have b1:=aU Q;have n1:=V7 (A:=500) (B:=2048) (a:=bu (n:Int) V) (b:=(M:Int)) j0 j0;have n2:=V7 (A:=500) (B:=2048) (a:=bu (n:Int) V) (b:=r.value.2) j0 j0;have⟨c,c1,c2⟩:=(Fr.int (bu (n:Int) V) j0 j0).add P8 (z:=bu (n:Int) V*(M:Int)+m) (F:=(M:Int)) j0 j0 j0 aT (by grind);have Pe:(eL (bu (n:Int) V) r).2=true:=by unfold eL;rw[c1]
    have E:=BF Pe;rw[Pe];by_cases K:(eL (bu (n:Int) V) r).1.1<0
    ·rw[f9 (E.2 K),f7 (show¬true=false by simp),f9 K]
    rw[f7 (λh=>K (E.1 h)),f7 (show¬true=false by simp),f7 K,y6]
   unfold fd fD;rw[f7 (show¬true=false by simp),f7 (show¬true=false by simp),f9 hs,f9 hs]
def Ox{P:Prop}(h:P:=by
 have I7:=I (M4.grow (C7.alloc w1 (QD #[] 3)));have M6:=I (r'.D2 w1 w.heap.size _ rfl M4.ext.size);have q0:=I7.c0;have q1:=I7.c1;have qf:=I7.free;go_wp2;refine Fn (v:=.tuple #[.agg #[U 0,U 0],EQ w1.heap.size 0 0,bl false]) (by simp[results,Tryz.results117,go_sem,q0,q1,qf]) rfl ⟨⟨_,by rw[HZ.o];rfl,by rw[HZ.o];exact M6.KS I7.o _ _⟩,(I7.put _ _).ext⟩
 ):P:=h
theorem vG{w:J}{p:Int}{a:l9}{cap:Nat}(h:d9 w a n cap V){b:l9}{m EM:Nat}{X:l7}(hx:i6 w b m EM X):
 Calls Tryz.prog 117 #[FS p a n cap,GI b m EM] w λe w'=>WG w' w e (fA p V X)/\C7 w w':=by
 have⟨W,hW⟩:=e9 ((w.alloc (QD #[.int .i64 p,GI a n cap] 31)).alloc (QD #[.int .i64 0,.int .i64 0] 56));have hX:C7 w W:=by rw[hW];exact WU.trans WU
 have Kk:=I (show ah w W (w+1) 0 0 by rw[hW];exact ah.new' WU _ _ j7);have k0:W.cell? ⟨w,0,none⟩=some (.int .i64 p):=by rw[hW];exact C7.o6 WU j7
 have k1:W.cell? ⟨w,1,none⟩=some (GI a n cap):=by rw[hW];exact C7.o6 WU j7
 refine t8 (mN (p:=p) (h.ext hX) (hx.ext hX)) (show fA p V X=(match ET p V X with|none=>none|some l=>if JL l=0 then none else some (ei l (JL l),eJ l (ei l (JL l)) (JL l)))from rfl) (λ(l:l7) (hl:ET p V X=some l)=>show JL l<=n by have:=(dO hl).2;have:=h.hlen;omega) λHE HW Lz=>?_
 have LK:=I (λ(l:l7) (hl:ET p V X=some l)=>show n<=32 by
  obtain⟨q,_,h1,h5,hlen,_,_⟩:=ap (dU (dO hl).1);have:=bp q h5;have h2:=h.hlen;omega)
 have r8:=h.r8;have r9:=h.r9;have⟨A,hA⟩:=e9 (ET p V X);have⟨R,hR⟩:=e9 (fA p V X);rw[<-hA]at HE HW Lz LK;rw[<-hR]at HW⊢;have DW:=I (show W.heap.size=w.heap.size+2 by rw[hW];simp);clear h hx hA hR hX;go_in
 go_upto_region 1 with fail;rw[<-hW];clear hW;go_wp2_with fail;refine TS HE λw1 v ho hx=>?_;obtain⟨a1,E,c1,rfl,HN⟩:=ho.var;have HO:=I ho.rats;have M4:=I (Kk.grow hx);have hsz:=hx.size;have Lq:=HO.r8;have Lm:=HO.r9;clear ho hx k0 k1;cases A with
 | none =>
   have HZ:b9 (R=none):=HW;exact Ox
 | some l =>
   have GQ:=LK.o l rfl;have PD:=Lz.o l rfl;have FT:JL l=E:=HN.o;have Hb:=I FT;by_cases h0:E=0
   ·have HZ:=I (show R=none by rw[HW.o];simp only;rw[f9 j0]);subst h0;exact Ox
   have hz:((E:Int) == 0)=false:=m9;have HZ:=I (show R=some (ei l E,eJ l (ei l E) E)by rw[HW.o];simp only;rw[f7 j0,FT]);have hn33:E<=32:=j0;simp only[Nm]at HO;have⟨b0,o0,x0,y0,e0,KH,d0,d1⟩:=HO.at (show 0<E by omega);have Y6:b9 (ei l 0=(x0,y0)):=KH;subst e0;have⟨w3,E8⟩:=e9 (w1.alloc (QD #[.int .i64 x0,.int .i64 y0] 56));refine Op (show ah w w3 w1 x0 y0 by rw[E8];exact ah.new M4.ext _ _) (show ah w w3 (w+1) 0 0 by rw[E8];exact M4.grow WU) (show w.heap.size+1<w1.heap.size by have:=DW.o;omega) (show C7 w1 w3 by rw[E8];exact WU) λHB I7 HG B7=>?_;rw[Nat.zero_mul,RF]at d0 d1;clear PD FT HN KH;go_upto_region 5 with fail;rw[<-E8];clear E8 d0 d1;have⟨H,K⟩:=e9 w1.heap.size;have Rn:=I K;rw[<-K]at HB HG⊢;clear K;go_wp2
   go_loopg [10] E (λgk ii wr=>∃(k:Nat) (bx bz:Int),b9 (gk+k=E)/\ii=.int .i64 (k:Int)/\b9 (ei l k=(bx,bz))/\b9 (ah w wr H bx bz)/\b9 (ah w wr (w+1) 0 0)/\b9 (C7 w1 wr))
   ·exact⟨0,x0,y0,I j0,rfl,Y6,HB,I7,B7⟩
   rename Nat=>g1;rename J=>y9;obtain⟨k,x,y,HK,rfl,Un,Ee,HR1',A0⟩:=hrel;have q0:=Ee.c0;have q1:=Ee.c1;by_cases hlt:k<E
   ·have⟨b,off,u,v,e,Mm,D1,Eu⟩:=(HO.ext A0).at hlt;simp only[bq,H4,E5]at e;obtain⟨rfl,rfl⟩:=e;have G4:=Rd k E;have KN:=ST k;have⟨c,hc⟩:=e9 (DM (u,v) (x,y));have HCV:=I (show ei l (k+1)=if 0<c then(u,v) else(x,y)by rw[ei,Mm,Un.o,hc]);have H6:=I (λw'=>eK u v x y w');simp only[<-hc]at H6;have O9:=I D1;have Sn:=I Eu;clear hc Mm;have o7:=C7.drew y9;have D0:=o7;have o8:=I (λ(w':J) (h:C7 y9 w')=>(an (h.o6 D1) (an (h.o6 Eu) (an (h.o6 q0) (an (h.o6 q1) h)))));go_wp2_with fail
    go_region_held3 (λw'=>w'.cell? ⟨b0,o0+k*2,none⟩=some (.int .i64 u)/\w'.cell? ⟨b0,o0+k*2+1,none⟩=some (.int .i64 v)/\w'.cell? ⟨H,0,none⟩=some (.int .i64 x)/\w'.cell? ⟨H,1,none⟩=some (.int .i64 y)/\C7 y9 w')
     (with_reducible exact o8.o _ o7)
     (first
       | ((with_reducible refine(H6.o _).mono ?_)
          rintro e w5 ⟨rfl,B0⟩;have o7:C7 y9 w5:=o7.trans B0;have Sz:=o7.size))
    clear D0;refine t8 (Ee.grow o7) (HR1'.grow o7) (A0.trans o7) λG JR Z=>?_;have r0:=o7.o6 O9.o;have r1:=o7.o6 Sn.o;clear q0 q1 D1 Eu;have q0:=G.c0;have q1:=G.c1;have qf:=G.free;by_cases hc:0<c
    ·have S7:=I (HCV.trans (f9 hc));go_wp2_with fail;refine kf ?_;exact⟨k+1,u,v,I (k8 HK.o),by go_num,S7,I (G.put _ _),I ((JR.other WQ WQ _).other WQ WQ _),I ((Z.setCell (p:=⟨H,0,none⟩) (by rw[Rn.o];exact i8 _) _).setCell (p:=⟨H,1,none⟩) (by rw[Rn.o];exact i8 _) _)⟩
    have S7:=I (HCV.trans (f7 hc));go_wp2_with fail;refine kf ?_;exact⟨k+1,x,y,I (k8 HK.o),by go_num,S7,G,JR,Z⟩
   have Rb:k=E:=k8 HK.o;subst Rb;rw[Un.o]at HZ;have⟨wl,hwl⟩:=e9 y9;subst hwl;have Pe:=Ee.ext.size;go_wp2
   go_loopg [11,12] k (λgk ll ii wr=>∃(j:Nat) (a4:l9) (n4 c4:Nat),b9 (gk+j=k)/\ii=.int .i64 (j:Int)/\ll=GI a4 n4 c4/\b9 (r' wr wl (GI a4 n4 c4) (eJ l (x,y) j))/\b9 (ah w wr H x y)/\b9 (ah w wr (w+1) 0 0)/\b9 (C7 wl wr))
   ·exact Sj
   obtain⟨j,a4,n4,c4,HJ,rfl,rfl,HL,FI,IL,Gm⟩:=hrel;clear q0 q1;have q0:=FI.c0;have q1:=FI.c1;by_cases hlt:j<k
   ·have⟨eb,eo,u,v,e,Mm,D1,Eu⟩:=(HO.ext (A0.trans Gm)).at hlt;simp only[bq,H4,E5]at e;obtain⟨rfl,rfl⟩:=e;have Rh:=I Mm;have PD:=mH l (x,y) j;have Th:=Gm.size;have hji:=Rd j k;have hj0:=ST j;have B6:=C7.drew wr;have LM:=I (λ(w':J) (hk:C7 wr w')=>(⟨hk.o6 D1,hk.o6 Eu,hk.o6 q0,hk.o6 q1,hk⟩:w'.cell? ⟨b0,o0+j*2,none⟩=some (.int .i64 u)/\w'.cell? ⟨b0,o0+j*2+1,none⟩=some (.int .i64 v)/\w'.cell? ⟨H,0,none⟩=some (.int .i64 x)/\w'.cell? ⟨H,1,none⟩=some (.int .i64 y)/\C7 wr w'));clear Mm;cases h1:(u == x)
    all_goals
     cases h2:(v == y)
    all_goals
     go_upto_region 14 with fail;refine mc LM B6 λo9=>?_
     refine mq ⟨?_⟩;refine tk 3 ?_;refine tk 4 ?_;refine tk 5 ?_;refine Pi j8 ?_ _;refine Op (FI.grow B6) (IL.grow B6) (HL.ext B6) (Gm.trans B6) λG JR Zf Z=>?_;clear B6;generalize wr.drew=wd at G JR Zf Z⊢;have hsz5:=Z.size
    rotate_left 3
    ·have I8:=I (rK (k:=j) (show l[j]?.getD (0,0)=(x,y)by rw[Rh.o,Sv h1,Sv h2]))
     go_wp2_with (first
      | (at_builtin;refine bK rfl _ _ rfl wl (GI a4 n4 c4) _ rfl (Zf.ext WU) _ 1 _ [(j:Int)+1] rfl (K4 j7) j0 m9 ?_;intro v9 w9 ho K r7;have Mg:=I (G.grown Zf.o WU Pe K);have Zb:=I (JR.grown Zf.o WU Pe K);have IZ:=I (aj (Z.trans WU) K (λj hj=>(Zf.lt j hj).1));obtain⟨a9,n9,c9,rfl,N'⟩:=ho.var;have Kx:=I ho;clear ho K r7))
     refine vE ?_;exact⟨j+1,_,_,_,I (k8 HJ.o),by go_num,rfl,I (by rw[I8.o];exact Kx),Mg,Zb,IZ⟩
    all_goals
     have I8:=I (uG (k:=j) (show l[j]?.getD (0,0)≠(x,y)by rw[Rh.o];intro e;have e1:=(Lp e).1;have e2:=(Lp e).2;rw[e1]at h1;rw[e2]at h2;simp at h1 h2));go_wp2_with fail;refine vE ?_;exact⟨j+1,_,_,_,I (k8 HJ.o),by go_num,rfl,I (by rw[I8.o];exact Zf),G,JR,Z⟩
   have Rb:j=k:=k8 HJ.o;subst Rb;have r0:=IL.c0;have r1:=IL.c1;have rf:=IL.free;go_wp2;refine Fn (v:=.tuple #[.agg #[.int .i64 x,.int .i64 y],GI a4 n4 c4,bl true]) (by simp[results,Tryz.results117,go_sem,r0,r1,rf]) rfl ⟨⟨_,by rw[HZ.o];rfl,by rw[HZ.o];exact(HL.KS IL.o x y).mono Pe⟩,(IL.put _ _).ext⟩
end
section
def Ye{W:J}{r G:Nat}{u v t:arQ}{Q:Prop}(h:C8 W G u v t)(E:G≠r)(x y z:arQ)(H:Q):(E' W r x y z).cell? (O G 0)=some u/\(E' W r x y z).cell? (O G 1)=some v/\(E' W r x y z).cell? (O G 2)=some t/\Q :=
 let⟨h0,h1,h2,_⟩:=C8.c h
 ⟨(Rs E _ _ _ 0).trans h0,(Rs E _ _ _ 1).trans h1,(Rs E _ _ _ 2).trans h2,H⟩
section
variable{w:J}{p:Int}{a b:l9}{n cap m dap:Nat}{V:o3}{X:l7}{base:Nat}
theorem xT(hV:d9 w a n cap V)(hX:i6 w b m dap X)(hn:n<=1048576)(hm:m<=1048576)(k:Int):Calls prog 16 #[sess p a n cap b m dap,U k] w λe w'=>DJ w' w e (jn ⟨p,V,X⟩ k)/\C7 w w':=by
 have⟨W,hW,K,HV,HX,Uh,⟨c0,c1,c2,cf⟩,r0,r1,r2,rf⟩:=lA p hV hX;have O8:=I (λ(w':J) (hx:C7 W w')=>hU (p:=p) (HV.ext hx) (HX.ext hx) hn hm);have⟨Z,IY⟩:=GT (jn ⟨p,V,X⟩ k);rw[<-IY.o];clear hV hX hn hm;go_in
 go_upto_region 1 with fail;rw[<-hW];clear hW;by_cases H:1<=k/\k<=5
 ·have D7:A4 k 1 5=true:=by unfold A4;simp;omega
  have Pn:=I (IY.trans (f9 H));obtain⟨q,rfl⟩:∃q:Nat,k=q:=⟨k.toNat,by omega⟩;have Q:=I (λ(w':J)=>dj (q:Int) w');have hN:=(bp q j0).2;rw[gg]at Pn;simp only[dP q j0]at Q;have⟨N,G⟩:=e9 (cN q);simp only[<-G]at Q hN Pn;have hmk:=kj N j0;have hB:=K.r.put (U q) (EQ W N N) d6;have E:(E' W (w+1) (U q) (EQ W N N) d6).heap.size=W.heap.size:=j7;obtain⟨z0,z1,z2,_⟩:=C8.c ((C7.alloc (E' W (w+1) (U q) (EQ W N N) d6) (QD (bH (List.replicate N 0)) 3)).blk hB);have hR:nM ((E' W (w+1) (U q) (EQ W N N) d6).alloc (QD (bH (List.replicate N 0)) 3)) W 3 (List.replicate N 0):=by
   have:=vC (E' W (w+1) (U q) (EQ W N N) d6) (QD (bH (List.replicate N 0)) 3);rw[E]at this;exact this
  have HZ:b9 (aK _ w (some (O W 0)) N N none 0 0 (List.replicate N 0) []):=I ⟨hR.own Uh.o j7 j0,qj⟩;have XZ:=I ((K.x.E' (b7 _) (U q) (EQ W N N) d6).trans (C7.alloc _ (QD (bH (List.replicate N 0)) 3)));have hlt:=In K.r;clear H G hB E hR;go_wp2_with fail;refine ta.mono ?_;rintro e w2 ⟨rfl,rfl⟩;go_wp2_with fail;refine(Q _).mono ?_;rintro e w3 ⟨rfl,rfl⟩;go_wp2;refine Fn (by simp[results,results16,go_sem,r0,r1,r2,rf,z0,z1,z2]<;>rfl) rfl ⟨DJ.of Pn.o rfl HZ.o,XZ⟩
 have D7:A4 k 1 5=false:=by unfold A4;simp;omega
 have Pn:=I (IY.trans (f7 H));clear H;go_wp2_with fail;refine ta.mono ?_;rintro e w1 ⟨rfl,rfl⟩;go_wp2_with fail;refine(O8 _ WF).mono ?_;rintro e w2 ⟨⟨a1,n1,k1,b1,m1,d1,rfl,ho⟩,hx⟩;have Fh:=I (K.ext hx);have Ec:=I (ho.mono Uh);clear hx ho r0 r1 r2 rf c0 c1 c2 cf;have⟨r0,r1,r2,rf⟩:=Fh.r.c;have⟨z0,z1,z2,HZ,XZ⟩:=Fh.Eg Ec.o (p);have qq0:=@results16;exact yB
theorem xS(hV:d9 w a n cap V)(hX:i6 w b m dap X)(hn:n<=1048576)(hm:m<=1048576)(k:Int):Calls prog 17 #[sess p a n cap b m dap,U k] w λe w'=>DJ w' w e (jU ⟨p,V,X⟩ k)/\C7 w w':=by
 have⟨W,hW,HT,HV,HX,Uh,⟨c0,c1,c2,cf⟩,r0,r1,r2,rf⟩:=lA p hV hX;have O8:=I (λ(w':J) (hx:C7 W w')=>hU (p:=p) (HV.ext hx) (HX.ext hx) hn hm);have⟨Z,IY⟩:=GT (jU ⟨p,V,X⟩ k);rw[<-IY.o];clear hV hX hn hm;go_in
 go_upto_region 1 with fail;rw[<-hW];clear hW;refine t8 (vz (w:=W) k) (λ(w':J)=>uM (w:=w') k) (show Z=if WZ k=[] then(⟨p,V,X⟩,Nw) else(⟨Gq k,Ge k,[]⟩,Zs)from IY) λOB H aa=>?_;have RJ:=sz (WZ k) [];generalize Gq k=q,Ge k=L at H aa;generalize WZ k=x at OB aa RJ;generalize bs x=xt at OB RJ;rw[show(bs []).toList=([]:List UInt8)from cY []]at RJ;by_cases G:x=[]
 ·have Pn:=I (aa.trans (f9 G));rw[UV G]at RJ;clear G;go_wp2_with fail;refine i7 OB λw1 A0=>?_;have E:=I (HT.ext A0);clear c0 c1 c2 cf r0 r1 r2 rf;have⟨c0,c1,c2,cf⟩:=E.s.c;have⟨r0,r1,r2,rf⟩:=E.r.c;go_wp2_with fail;refine(O8 _ A0).mono ?_;rintro e w2 ⟨⟨a1,n1,k1,b1,m1,d1,rfl,ho⟩,hx⟩;have K:=I (E.ext hx);have Ec:=I (ho.mono E.x.size);clear hx ho r0 r1 r2 rf c0 c1 c2 cf;have⟨r0,r1,r2,rf⟩:=K.r.c;have⟨z0,z1,z2,HZ,XZ⟩:=K.Eg Ec.o (p);have qq0:=@results17;exact yB
 have Pn:=I (aa.trans (f7 G));rw[Ok G]at RJ;clear G;go_wp2_with fail;refine i7 OB λw1 hx=>?_;have E:=I (HT.ext hx);go_wp2_with fail;refine PP (H _) λw2 v ho hx=>?_;obtain⟨a1,n1,k1,rfl,HN1⟩:=ho.var;have K:=I (E.ext hx);have Ec:b9 (aK w2 w a1 n1 k1 none 0 0 L []):=I ⟨ho.mono E.x.size,qj⟩;clear ho HN1 c0 c1 c2 cf r0 r1 r2 rf;have⟨r0,r1,r2,rf⟩:=K.r.c;have⟨z0,z1,z2,HZ,XZ⟩:=K.Eg Ec.o ((q:Int));have qq0:=@results17;exact yB
theorem By(hV:d9 w a n cap V)(hX:i6 w b m dap X)(hn:n<=1048576)(hm:m<=1048576){pa:l9}{pn pc:Nat}{P:l7}{ok:Bool}(hP:ok=true->i6 w pa pn pc P/\pn<=100000):Calls prog 45 #[sess p a n cap b m dap,GI pa pn pc,bl ok] w λe w'=>DJ w' w e (dN ⟨p,V,X⟩ P ok)/\C7 w w':=by
 have⟨W,hW,HT,HV,HX,Uh,⟨c0,c1,c2,cf⟩,r0,r1,r2,rf⟩:=lA p hV hX;have O8:=I (λ(w':J) (hx:C7 W w')=>hU (p:=p) (HV.ext hx) (HX.ext hx) hn hm);have⟨Z,Pn⟩:=GT (dN ⟨p,V,X⟩ P ok);rw[<-Pn.o];have HP:=I hP;clear hP;clear hV hX hn hm;go_in
 go_upto_region 1 with fail;rw[<-hW];clear hW;go_wp2_with fail;refine(O8 _ WF).mono ?_;rintro e w2 ⟨⟨a1,n1,k1,b1,m1,d1,rfl,ho⟩,hx⟩;refine Op (show C8 (w2.alloc (QD #[U p,GI a1 n1 k1,GI b1 m1 d1] 34)) w2 (U p) (GI a1 n1 k1) (GI b1 m1 d1)from IO rfl) (hx.trans (C7.alloc w2 (QD #[U p,GI a1 n1 k1,GI b1 m1 d1] 34))) ((ho.mono Uh).ext (C7.alloc w2 (QD #[U p,GI a1 n1 k1,GI b1 m1 d1] 34))) (show w.heap.size+1<w2.heap.size from Pw (In HT.r) hx.size) λEn B7 Ec Ns=>?_;have⟨w3,E8⟩:=e9 (w2.alloc (QD #[U p,GI a1 n1 k1,GI b1 m1 d1] 34));rw[<-E8]at En B7 Ec;go_upto_region 2 with fail;rw[<-E8];clear E8 hx ho c0 c1 c2 cf r0 r1 r2 rf;generalize w2.heap.size=G at En Ns⊢;have Fh:=I (HT.ext B7);have⟨d0,d1',d2,df⟩:=C8.c En.o;have⟨c0,c1,c2,cf⟩:=Fh.s.c;have⟨r0,r1,r2,rf⟩:=Fh.r.c;cases ok with
 | false =>
   have⟨z0,z1,z2,HZ,XZ⟩:=Fh.Eg Ec.o (p);have qq0:=@results45;exact yB
 | true =>
   have⟨hp,hpn⟩:=HP.o rfl;have I8:=I (λ(w':J) (hx:C7 w w')=>ja (hp.ext hx) j0);have HFV:=I (λ(w':J) (hx:C7 w w')=>tI (hp.ext hx) hpn);have⟨tt,Nn⟩:=GT (bs (Qi P));simp only[<-Nn.o]at HFV;clear hp hpn;go_wp2_with fail;refine PP (I8 _ Fh.x) λw4 v ho hx=>?_;obtain⟨pa',H,pc',rfl,Ys⟩:=ho.var;refine Op (hx.blk En) (Fh.ext hx) (Ec.ext hx) (ho.mono Fh.x.size) λFI No EI HP4=>?_;clear ho Ys c0 c1 c2 cf r0 r1 r2 rf d0 d1' d2 df;have⟨d0,d1',d2,df⟩:=C8.c FI.o;have⟨w5,Fc⟩:=e9 (w4.setCell (O G 2) (GI pa' H pc'));have Ek:=I (show C8 w5 G (U p) (GI a1 n1 k1) (GI pa' H pc')by rw[Fc];exact C8.Ta FI.o _);have DT:=I (show aK w5 w a1 n1 k1 pa' H pc' V P by rw[Fc];exact aK.set2 (X:=P) ⟨EI.v,HP4⟩ FI.o _)
   have Ki:=I (show cq w w5 p a n cap b m dap by
    rw[Fc];have:=Ns.o;exact⟨No.x.store 2 j0 _,(GE _ _ _ _ m9).trans No.s,(GE _ _ _ _ m9).trans No.r⟩)
   go_upto_region 5 with fail;rw[<-Fc];clear Fc d0 d1' d2 df;have E:=C7.drew w5;have HK:=I (λ(w':J) (E:C7 w5 w')=>(let⟨x0,x1,x2,_⟩:=C8.c (E.blk Ek);⟨x0,x1,x2,Ki.x.trans E⟩:w'.cell? (O G 0)=some (U p)/\w'.cell? (O G 1)=some (GI a1 n1 k1)/\w'.cell? (O G 2)=some (GI pa' H pc')/\C7 w w'));refine mc HK E λo9=>?_
   refine tk 0 ?_;refine tk 1 ?_;refine rd 2 λK hK=>?_;go_simp
   (go_at_call 110;refine i7 (HFV _ (Ki.x.trans E)) λw6 hx=>?_;have E:=E.trans hx)
   go_wp2_with fail;refine KO (HK _ E) λo9=>?_;have LH:=I (Ki.ext E);have Rl:=I (DT.ext E);have⟨r0,r1,r2,rf⟩:=LH.r.c;have⟨z0,z1,z2,HZ,XZ⟩:=LH.Eg Rl.o p;refine rd 3 λK hK=>?_;go_simp;refine hK.out _ _ ?_ (λo9=>?_)
   ·exact Ye (E.blk Ek) (k8 Ns.o) _ _ _ XZ.o
   clear hK K
   try simp only[Act.put,sA,sB,sC]
   refine tk 4 ?_;refine Pi j8 ?_ _;go_wp2;refine Fn (by simp[results,results45,go_sem,r0,r1,r2,rf,z0,z1,z2]<;>rfl) rfl ⟨DJ.of Pn.o Nn.o HZ.o,XZ⟩
end
section
variable{w:J}{p:Int}{a b:l9}{n cap m dap:Nat}{V:o3}{X:l7}{base:Nat}
theorem Du(hV:d9 w a n cap V)(hX:i6 w b m dap X)(hn:n<=1048576)(hm:m<=1048576):Calls prog 21 #[sess p a n cap b m dap] w λe w'=>DJ w' w e (Fz ⟨p,V,X⟩ 4)/\C7 w w':=by
 have⟨W,hW,HT,HV,HX,Uh,⟨c0,c1,c2,cf⟩,r0,r1,r2,rf⟩:=lA p hV hX;have O8:=I (λ(w':J) (hx:C7 W w')=>hU (p:=p) (HV.ext hx) (HX.ext hx) hn hm);have⟨Z,hZ⟩:=e9 (Fz ⟨p,V,X⟩ 4);rw[<-hZ];have IY:=I hZ;have⟨c,hc4,MO⟩:=vN ⟨p,V,X⟩;have LR:=HV.hlen;have⟨P,hP⟩:=e9 (jx ⟨p,V,X⟩);have Ff:=I (λ(w':J) (hx:C7 W w')=>show Calls prog 46 #[FS p a n cap] w' λe w''=>(∃pa pn pc wa H wc,e=ar (.agg #[U c,GI pa pn pc,GI wa H wc])/\(c=1->WV w'' w' (GI pa pn pc) P))/\C7 w' w'' by
  refine(Br (p:=p) (HV.ext hx)).mono ?_;rintro e w'' ⟨⟨pa,pn,pc,wa,H,wc,rfl,ho⟩,C4⟩;rw[<-LR,<-Xz]at ho⊢;refine⟨⟨pa,pn,pc,wa,H,wc,by rw[<-MO];rfl,λh1=>by rw[hP];exact ho (MO.trans (by rw[h1];rfl))⟩,C4⟩)
 have I8:=I (λ(h1:c=1)=>show JL P<=5 by rw[hP];exact rL (by rw[MO,h1];rfl));have Sm:=I (λ(w':J)=>Bq (w:=w') c hc4);have Gn:=I (show Z=(if c=1 then⟨p,V,P⟩ else⟨p,V,X⟩,ij (c:Int))by
  rw[hZ];show(if iC ⟨p,V,X⟩=1 then(⟨p,V,jx ⟨p,V,X⟩⟩:St) else⟨p,V,X⟩,ij (iC ⟨p,V,X⟩))=_;rw[MO,<-hP];by_cases h1:c=1
  ·rw[f9 h1,f9 j0]
  rw[f7 h1,f7 j0])
 have⟨tx,HTX⟩:=GT (bs (ij (c:Int)));simp only[<-HTX.o]at Sm;clear MO hP LR;clear hV hX hn hm hZ;go_in
 go_upto_region 1 with fail;rw[<-hW];clear hW;go_wp2_with fail;refine(O8 _ WF).mono ?_;rintro e w2 ⟨⟨a1,n1,k1,b1,m1,d1,rfl,ho⟩,hx⟩;refine Op (show C8 (w2.alloc (QD #[U p,GI a1 n1 k1,GI b1 m1 d1] 34)) w2 (U p) (GI a1 n1 k1) (GI b1 m1 d1)from IO rfl) (hx.trans (C7.alloc w2 (QD #[U p,GI a1 n1 k1,GI b1 m1 d1] 34))) ((ho.mono Uh).ext (C7.alloc w2 (QD #[U p,GI a1 n1 k1,GI b1 m1 d1] 34))) (show w.heap.size+1<w2.heap.size from Pw (In HT.r) hx.size) λEn B7 B9 Ns=>?_;have⟨w3,E8⟩:=e9 (w2.alloc (QD #[U p,GI a1 n1 k1,GI b1 m1 d1] 34));rw[<-E8]at En B7 B9;go_upto_region 2 with fail;rw[<-E8];clear E8 hx ho c0 c1 c2 cf r0 r1 r2 rf;generalize w2.heap.size=G at En Ns⊢;have Fu:=I (HT.ext B7);have⟨d0,E,d2,df⟩:=C8.c En.o;have⟨c0,c1,c2,cf⟩:=Fu.s.c;have⟨r0,r1,r2,rf⟩:=Fu.r.c;go_wp2_with fail;refine(Ff _ B7).mono ?_;rintro e w4 ⟨⟨pa,pn,pc,wa,H,wc,rfl,ho⟩,hx⟩;have Jn:=I (λ(h1:c=1)=>(ho h1).rats.ext (C7.alloc w4 (QD #[U c,GI pa pn pc,GI wa H wc] 71)))
 refine ns (ai w4 (QD #[U c,GI pa pn pc,GI wa H wc] 71) _ rfl) (B7.trans (hx.trans (C7.alloc w4 (QD #[U c,GI pa pn pc,GI wa H wc] 71)))) (B9.ext (hx.trans (C7.alloc w4 (QD #[U c,GI pa pn pc,GI wa H wc] 71)))) ((hx.trans (C7.alloc w4 (QD #[U c,GI pa pn pc,GI wa H wc] 71))).blk En) (show G<w4.heap.size from Pw (In En) hx.size) λHB FV DT Ek S5=>?_;have⟨w5,Fc⟩:=e9 (w4.alloc (QD #[U c,GI pa pn pc,GI wa H wc] 71));rw[<-Fc]at Jn HB FV DT Ek;go_upto_region 3 with fail;rw[<-Fc];clear Fc hx ho c0 c1 c2 cf r0 r1 r2 rf d0 E d2 df;generalize w4.heap.size=g at HB S5⊢;have⟨f0,f1,f2,ff⟩:=fL HB.o;have⟨d0,E,d2,df⟩:=C8.c Ek.o;have Ki:=I (HT.ext FV)
 go_upto_if 13 with fail
 go_cut [2] (λv wx=>v=aP (some (O (w+1) 0))/\∃(b4:l9) (m4 d4:Nat) (X4:l7),b9 (cq w wx p a n cap b m dap)/\b9 (C8 wx G (U p) (GI a1 n1 k1) (GI b4 m4 d4))/\b9 (aK wx w a1 n1 k1 b4 m4 d4 V X4)/\b9 (wx.cell? (O g 0)=some (U c))/\b9 (Z=(⟨p,V,X4⟩,ij (c:Int))))
 case first =>
  by_cases h1:c=1
  ·have LC:pn<=1099511627776:=by have h2:=I8.o h1;have h3:=(Jn h1).hlen;omega
   have H4:=I (ja (Jn h1) LC);have heq:((c:Int) == 1)=true:=by simp[h1]
   clear LC;go_wp2_with fail;refine PP H4 λw6 v ho hx=>?_;obtain⟨a6,n6,c6,rfl,Ia⟩:=ho.var;have hB6:=hx.blk Ek.o;have SV:=I (show cq w (w6.setCell (O G 2) (GI a6 n6 c6)) p a n cap b m dap from by
    have:=Ns.o;exact⟨(Ki.ext hx).x.store 2 j0 _,(GE _ _ _ _ m9).trans (Ki.ext hx).s,(GE _ _ _ _ m9).trans (Ki.ext hx).r⟩)
   refine t8 (C8.Ta hB6 (GI a6 n6 c6)) (aK.set2 (X:=P) ⟨(DT.ext hx).v,ho.mono Ki.x.size⟩ hB6 (GI a6 n6 c6)) (show(w6.setCell (O G 2) (GI a6 n6 c6)).cell? (O g 0)=some (U c)from(kQ (GE _ _ _ _ (by have:=S5.o;simp;omega)) 0).trans (hx.o6 f0)) λI' EP Zo=>?_;clear d0 E d2 df;have⟨d0,E,d2,df⟩:=C8.c hB6;clear ho Ia hB6;go_wp2;go_meet;exact⟨rfl,_,_,_,_,SV,I',EP,Zo,I (Gn.trans (by rw[f9 h1]))⟩
  have hne:((c:Int) == 1)=false:=m9;go_wp2;go_meet;exact⟨rfl,_,_,_,_,Ki,Ek,DT,I f0,I (Gn.trans (by rw[f7 h1]))⟩
 obtain⟨rfl,b4,m4,d4,X4,No,FI,EI,HC4,JQ⟩:=hcut;clear f0 f1 f2 ff d0 E d2 df;have HK:=I (λ(w':J) (hk:C7 wc w')=>(let⟨x0,x1,x2,_⟩:=C8.c (hk.blk FI);⟨hk.o6 HC4.o,x0,x1,x2,No.x.trans hk⟩:w'.cell? (O g 0)=some (U c)/\w'.cell? (O G 0)=some (U p)/\w'.cell? (O G 1)=some (GI a1 n1 k1)/\w'.cell? (O G 2)=some (GI b4 m4 d4)/\C7 w w'));have hk:=C7.drew wc;go_upto_region 5 with fail;refine mc HK hk λo9=>?_
 refine mq ⟨?_⟩;refine rd 3 λK hK=>?_;go_simp
 (go_at_call 48;refine IR (Sm _) λw5 Ey=>?_;have hk:=hk.trans Ey)
 go_wp2_with fail;refine KO (HK _ hk) λo9=>?_;have LH:=I (No.ext hk);have Rl:=I (EI.ext hk);have⟨r0,r1,r2,rf⟩:=LH.r.c;have⟨z0,z1,z2,HZ,XZ⟩:=LH.Eg Rl.o p;refine rd 4 λK hK=>?_;go_simp;refine hK.out _ _ ?_ (λo9=>?_)
 ·exact⟨(Rs (by have:=Ns.o;have:=S5.o;omega) _ _ _ 0).trans (hk.o6 HC4),Ye (hk.blk FI) (k8 Ns.o) _ _ _ XZ.o⟩
 clear hK K
 try simp only[Act.put,sA,sB,sC]
 refine tk 5 ?_;refine Pi j8 ?_ _;go_wp2;refine Fn (by simp[results,results21,go_sem,r0,r1,r2,rf,z0,z1,z2]<;>rfl) rfl ⟨DJ.of JQ.o HTX.o HZ.o,XZ⟩
theorem Bz(hV:d9 w a n cap V)(hX:i6 w b m dap X)(hn:n<=1048576)(hm:m<=1048576)(t:List UInt8)(hi:So t<=3):Calls prog 20 #[sess p a n cap b m dap,aE (bs t)] w λe w'=>DJ w' w e (Fz ⟨p,V,X⟩ (So t))/\C7 w w':=by
 obtain⟨_,e1,e2,e3,_⟩:=w9 t;have⟨W,hW,HT,HV,HX,Uh,⟨c0,c1,c2,cf⟩,r0,r1,r2,rf⟩:=lA p hV hX;have O8:=I (λ(w':J) (hx:C7 W w')=>hU (p:=p) (HV.ext hx) (HX.ext hx) hn hm);have⟨Z,hZ⟩:=e9 (Fz ⟨p,V,X⟩ (So t));rw[<-hZ];refine z6 hZ (λ(w':J) (hx:C7 W w') (pa:l9) (pn pc:Nat) (P:l7) (ok:Bool) (hP:ok=true->i6 w' pa pn pc P/\pn<=100000)=>By (p:=p) (HV.ext hx) (HX.ext hx) hn hm hP) (lR (x:=p) HV) (λ(w':J) (hx:C7 W w')=>tG (x:=p) (HV.ext hx)) (λ(w':J) (hx:C7 W w')=>rZ (p:=p) (HV.ext hx)) (λ(w':J) (hx:C7 W w')=>se (p:=p) (HV.ext hx)) λIY OY Ff Un Mz HNV=>?_;have⟨i,Ho⟩:=e9 (So t);rw[<-Ho]at e1 e2 e3 hi hZ;have⟨ok0,aam⟩:=e9 (ak p V);have⟨P0,hP0⟩:=e9 (fP p V);have⟨P1,hP1⟩:=e9 (ig p V);have⟨QX,aal⟩:=e9 (Jb p V);have⟨P2,hP2⟩:=e9 (MG p V);have⟨N,hN⟩:=e9 (Iw p V);have h0:=ou p V;have h1:=nu p V;have h2:=qo p V;have h3:=(tB p V).1;have hz:Z=if i=0 then dN ⟨p,V,X⟩ P0 ok0 else if i=1 then dN ⟨p,V,X⟩ P1 ok0 else if i=2 then dN ⟨p,V,X⟩ P2 QX else dN ⟨p,V,X⟩ N.pt N.ok:=by
  rw[hZ,aam,hP0,hP1,aal,hP2,hN];obtain rfl|rfl|rfl|rfl:i=0∨i=1∨i=2∨i=3:=j0
  all_goals rfl
 unfold je at Mz;rw[<-aam,<-hP0]at Ff;simp only[<-aam,<-hP1]at Un;simp only[<-aal,<-hP2]at Mz;simp only[<-hN]at HNV;rw[<-hP0]at h0;rw[<-hP1]at h1;rw[<-aal,<-hP2]at h2;rw[<-hN]at h3;refine ns h0 h1 h2 h3 hz λNr Me HL2 Oz HZM=>?_;generalize bs t=tt at e1 e2 e3⊢;clear Ho aam hP0 hP1 aal hP2 hN h0 h1 h2 h3 hz;clear hV hX hn hm hZ;go_in
 go_upto_region 1 with fail;rw[<-hW];clear hW;go_wp2_with fail;refine PP Ff λw1 v ho A0=>?_;obtain⟨pa,pn,pc,rfl,HN1⟩:=ho.var;have HPS:=I ho.rats;clear ho c0 c1 c2 cf r0 r1 r2 rf;have⟨c0,c1,c2,cf⟩:=(HT.ext A0).s.c
 go_upto_block 0 with fail
 go_cut [6,7] (λvp vo wx=>∃(pa:l9) (pn pc:Nat) (ok:Bool),vp=GI pa pn pc/\vo=bl ok/\b9 (∃P,(ok=true->i6 wx pa pn pc P/\pn<=100000)/\Z=dN ⟨p,V,X⟩ P ok)/\b9 (C7 W wx))
 case first =>
  obtain rfl|rfl|rfl|rfl:i=0∨i=1∨i=2∨i=3:=j0
  all_goals simp only[Nat.reduceBEq]at e1 e2 e3
  ·have Nq:=I (show∃P,(ok0=true->i6 w1 pa pn pc P/\pn<=100000)/\Z=dN ⟨p,V,X⟩ P ok0 from⟨P0,λ_=>⟨HPS,by have:=HN1.o;have:=Nr.o;omega⟩,HZM⟩);go_wp2;go_meet;exact⟨_,_,_,_,rfl,rfl,Nq,A0⟩
  ·go_wp2_with fail;refine PP (Un _ A0) λK v ho hx=>?_;obtain⟨Ry,Pw,Rx,rfl,Hb⟩:=ho.var;have Nq:=I (show∃P,(ok0=true->i6 K Ry Pw Rx P/\Pw<=100000)/\Z=dN ⟨p,V,X⟩ P ok0 from⟨P1,λ_=>⟨ho.rats,by have:=Hb.o;have:=Me.o;omega⟩,HZM⟩);have FU:=I (A0.trans hx);clear ho;go_wp2;go_meet;exact⟨_,_,_,_,rfl,rfl,Nq,FU⟩
  ·go_wp2_with fail;refine(Mz _ A0).mono ?_;rintro e K ⟨⟨x,y,Ry,Pw,Rx,wa,wn,wc,rfl,ho⟩,hx⟩;refine t8 (show∃P,(QX=true->i6 (K.alloc (QD #[bl QX,U x,U y,GI Ry Pw Rx,GI wa wn wc] 63)) Ry Pw Rx P/\Pw<=100000)/\Z=dN ⟨p,V,X⟩ P QX from⟨P2,λhh=>⟨(ho hh).2.rats.ext WU,by have h1:=(ho hh).2.rats.hlen;have h2:=HL2.o hh;omega⟩,HZM⟩) (ai K (QD #[bl QX,U x,U y,GI Ry Pw Rx,GI wa wn wc] 63) _ rfl) (A0.trans (hx.trans (C7.alloc K (QD #[bl QX,U x,U y,GI Ry Pw Rx,GI wa wn wc] 63)))) λNq I' FU=>?_;have⟨w7,Gh⟩:=e9 (K.alloc (QD #[bl QX,U x,U y,GI Ry Pw Rx,GI wa wn wc] 63));rw[<-Gh]at I' FU Nq;go_upto_region 7 with fail;rw[<-Gh];clear Gh hx ho;generalize K.heap.size=g6 at I'⊢;have⟨f0,f1,f2,f3,f4,ff⟩:=NU I'.o;go_wp2;go_meet;exact⟨_,_,_,_,rfl,rfl,Nq,FU⟩
  obtain⟨QX,P3,st,ro⟩:=N;go_wp2_with fail;refine(HNV _ A0).mono ?_;rintro e K ⟨⟨Ry,Pw,Rx,sa,sn,sc,rfl,ho,_⟩,hx⟩;refine t8 (show∃P,(QX=true->i6 (K.alloc (QD #[bl QX,GI Ry Pw Rx,GI sa sn sc,U ((ro:Nat):Int)] 67)) Ry Pw Rx P/\Pw<=100000)/\Z=dN ⟨p,V,X⟩ P QX from⟨P3,λ_=>⟨ho.rats.ext WU,by have h1:JL P3=Pw:=ho.rats.hlen;have h2:JL P3<=5:=Oz.o;omega⟩,HZM⟩) (ai K (QD #[bl QX,GI Ry Pw Rx,GI sa sn sc,U ((ro:Nat):Int)] 67) _ rfl) (A0.trans (hx.trans (C7.alloc K (QD #[bl QX,GI Ry Pw Rx,GI sa sn sc,U ((ro:Nat):Int)] 67)))) λNq I' FU=>?_;have⟨w7,Gh⟩:=e9 (K.alloc (QD #[bl QX,GI Ry Pw Rx,GI sa sn sc,U ((ro:Nat):Int)] 67));rw[<-Gh]at I' FU Nq;go_upto_region 11 with fail;rw[<-Gh];clear Gh hx ho;generalize K.heap.size=g6 at I'⊢;have⟨f0,f1,f2,f3,ff⟩:=GO I'.o;go_wp2;go_meet;exact⟨_,_,_,_,rfl,rfl,Nq,FU⟩
 obtain⟨pa4,pn4,pc4,ok,rfl,rfl,HP4,Gm⟩:=hcut;have⟨P,hP,hz⟩:=HP4.o;have EO:=I (OY _ Gm.o pa4 pn4 pc4 P ok hP);generalize dN ⟨p,V,X⟩ P ok=R at EO hz;have JQ:=I hz;have No:=I (HT.ext Gm);clear hP hz HP4 c0 c1 c2 cf;have⟨c0,c1,c2,cf⟩:=No.s.c;go_wp2_with fail;refine EO.mono ?_;rintro e K ⟨⟨a',n',k',b',m',d',rfl,ho⟩,hx⟩;have⟨tr,I0⟩:=GT (bs R.2);have⟨rp,Mb⟩:=GT R.1.p;rw[<-I0.o,<-Mb.o];refine t8 (show C8 (K.alloc (QD #[U rp,GI a' n' k',GI b' m' d'] 34)) K (U rp) (GI a' n' k') (GI b' m' d')from IO rfl) ((No.ext hx).ext (C7.alloc K (QD #[U rp,GI a' n' k',GI b' m' d'] 34))) ((ho.mono No.x.size).ext (C7.alloc K (QD #[U rp,GI a' n' k',GI b' m' d'] 34))) λKn R6 II=>?_;have⟨w7,Gh⟩:=e9 (K.alloc (QD #[U rp,GI a' n' k',GI b' m' d'] 34));rw[<-Gh]at Kn R6 II;go_upto_region 14 with fail;rw[<-Gh];clear Gh hx ho c0 c1 c2 cf;generalize K.heap.size=g7 at Kn⊢;have⟨d0,d1',d2,df⟩:=C8.c Kn.o;have⟨r0,r1,r2,rf⟩:=R6.r.c;have⟨z0,z1,z2,HZ,XZ⟩:=R6.Eg II.o rp;go_wp2
 refine Fn (by simp[results,results20,go_sem,r0,r1,r2,rf,z0,z1,z2]<;>rfl) rfl ⟨DJ.re JQ.o Mb.o I0.o HZ.o,XZ⟩
end
def VL{c d:UInt8}(L:List (List UInt8)):JL (Lib.join L [c])=JL (Lib.join L [d]):=by
 cases L with
 | nil=>rfl
 | cons x r =>
   rw[QP,QP,SW,SW];congr 1;unfold Lib.joinTail
   induction r with
   | nil=>rfl
   | cons y q ih =>
     simp only[Ti,JI,SW,nR,Pb]at ih⊢;omega
def VM(x z:List UInt8)(A:List (List UInt8)):Lib.join (x::(A++[z])) [32]=Lib.join (x::A) [32]++([32]++z):=by
 rw[QP,QP];unfold Lib.joinTail;simp
section
variable{w:J}{p:Int}{a b:l9}{n cap m dap:Nat}{V:o3}{X:l7}{base:Nat}
theorem yZ(h:d9 w a n cap V):
 f8 53 #[FS p a n cap] w (aE (bs (if ak p V=true then ed p.toNat V else []))):=by
 cases E:ak p V
 ·have X2:=I (C7.alloc w (QD #[U p,GI a n cap] 31));have G:=I (bY (p:=p) (h.ext X2));rw[E]at G;clear h E;unfold f8;go_in
  go_wp2_with fail;refine IR G λw1 hx=>?_;exact P3
 obtain⟨q,rfl,h1,h5,hlen,_,hb⟩:=ap E;rw[f9 rfl,gg];exact om h (λj=>by have:=dp hb j;omega)
theorem Bx(hV:d9 w a n cap V)(hX:i6 w b m dap X):f8 50 #[sess p a n cap b m dap] w (aE (bs (nz ⟨p,V,X⟩))):=by
 have HC:nz ⟨p,V,X⟩=eA [99,111,114,101] (fE p V X)++([32]++(eA [102,97,105,114] (ak p V&&decide (fP p V=X))++([32]++eA [110,117,99,108,101,111,108,117,115] (ji p V X)))):=rfl;have⟨Z,hZ⟩:=e9 (nz ⟨p,V,X⟩);rw[<-hZ]at HC⊢;clear hZ;have⟨W,hW⟩:=e9 (w.alloc (QD #[.int .i64 p,GI a n cap,GI b m dap] 34));have Ha:=I (show C7 w W by rw[hW];exact WU);have HB:=I (show C8 W w (.int .i64 p) (GI a n cap) (GI b m dap)by rw[hW];exact IO rfl);have HV:=I (hV.ext Ha);have HX:=I (hX.ext Ha);have Mo:=lR (x:=p) HV.o;have⟨ok,DL⟩:=e9 (ak p V);have⟨P,hP⟩:=e9 (fP p V);rw[<-DL,<-hP]at Mo HC;have Ff:=I Mo;have Gn:=I HC;clear DL hP Mo HC;have⟨c0,c1,c2,cf⟩:=C8.c HB.o;clear hV hX;(try unfold f8);go_in
 go_upto_region 1 with fail;rw[<-hW];clear hW;go_wp2_with fail;refine TS Ff λw1 v ho hx=>?_;obtain⟨pa,pn,pc,rfl,HN⟩:=ho.var;have Jn:=I ho;have A0:=I hx;clear ho HN hx c0 c1 c2 cf;have⟨c0,c1,c2,cf⟩:=C8.c (A0.blk HB);refine Op (λ(w':J) (E:C7 w1 w')=>(let⟨x0,x1,x2,_⟩:=C8.c ((A0.trans E).blk HB);⟨x0,x1,x2,Ha.trans (A0.trans E)⟩:w'.cell? ⟨w,0,none⟩=some (.int .i64 p)/\w'.cell? ⟨w,1,none⟩=some (GI a n cap)/\w'.cell? ⟨w,2,none⟩=some (GI b m dap)/\C7 w w')) (λ(w':J) (hx:C7 w1 w')=>U2 (p:=p) (HV.ext (A0.trans hx)) (HX.ext (A0.trans hx))) (λ(w':J) (hx:C7 w1 w')=>vw (Jn.rats.ext hx) (HX.ext (A0.trans hx))) (λ(w':J) (hx:C7 w1 w')=>vD (p:=p) (HV.ext (A0.trans hx)) (HX.ext (A0.trans hx))) λLM HIC S6 HNU=>?_;have hon:=Gn.o;have⟨B1,hB1⟩:=e9 (fE p V X);have⟨B2,PL⟩:=e9 (decide (P=X));have⟨B3,KQ⟩:=e9 (ji p V X);simp only[<-hB1]at HIC;simp only[<-PL]at S6;simp only[<-KQ]at HNU;rw[<-hB1,<-PL,<-KQ]at hon;clear hB1 PL KQ;have HW1:=I (λ(w':J)=>xW (w:=w') [99,111,114,101] B1);have G:=I (λ(w':J)=>xW (w:=w') [102,97,105,114] (ok&&B2))
 have HW3:=I (λ(w':J)=>xW (w:=w') [110,117,99,108,101,111,108,117,115] B3);have⟨u1,Kr⟩:=e9 (bs (eA [99,111,114,101] B1));have⟨u2,Q3⟩:=e9 (bs (eA [102,97,105,114] (ok&&B2)));have⟨u3,Wa⟩:=e9 (bs (eA [110,117,99,108,101,111,108,117,115] B3));have IK:u1.size<=100:=by rw[Kr,aY];have:=iu [99,111,114,101] B1;simp at this;omega
 have Nc:u2.size<=100:=by rw[Q3,aY];have:=iu [102,97,105,114] (ok&&B2);simp at this;omega
 have J8:u3.size<=100:=by rw[Wa,aY];have:=iu [110,117,99,108,101,111,108,117,115] B3;simp at this;omega
 have HTX:=I (show u1++{ data:=#[32] }++u2++{ data:=#[32] }++u3=bs Z by
  rw[Kr,Q3,Wa,hon];show bs _++bs [32]++bs _++bs [32]++bs _=_;rw[ch,ch,ch,ch];simp only[yf])
 simp only[<-Kr]at HW1;simp only[<-Q3]at G;simp only[<-Wa]at HW3;have Li:¬9223372036854775807<u1.size+1:=j0;have J6:¬9223372036854775807<u1.size+1+u2.size:=j0;have hz3:¬9223372036854775807<u1.size+1+u2.size+1:=j0;have hz4:¬9223372036854775807<u1.size+1+u2.size+1+u3.size:=j0;clear Kr Q3 Wa IK Nc J8 hon c0 c1 c2 cf;have E:=C7.drew w1;go_upto_region 2 with fail;refine mc LM E λo9=>?_
 refine mq ⟨?_⟩;refine tk 3 ?_;refine tk 7 ?_;refine tk 17 ?_;refine ck ⟨?_⟩;refine rd 4 λK hK=>?_;go_simp
 (go_at_call 114;refine IR (HIC _ E) λw2 hx=>?_;have E:=E.trans hx;clear hx)
 go_wp2_with fail;refine KO (LM _ E) λo9=>?_;refine rd 5 λK hK=>?_;go_simp
 (go_at_call 113;refine IR (HW1 _) λw3 hx=>?_;have E:=E.trans hx;clear hx)
 go_wp2_with fail;refine KO (LM _ E) λo9=>?_;refine tk 6 ?_;refine tk 8 ?_;cases ok
 case' false =>
  rw[cy]at G;refine tk 9 ?_;refine tk 10 ?_;refine tk 11 ?_;refine tk 12 ?_
 case' true =>
  rw[y6]at G;refine tk 9 ?_;refine tk 10 ?_;refine tk 11 ?_;refine rd 12 λK hK=>?_;go_simp
  (go_at_call 115;refine IR (S6 _ E) λw4 hx=>?_;have E:=E.trans hx.ext;clear hx)
  go_wp2_with fail;refine KO (LM _ E) λo9=>?_
 all_goals
  refine tk 13 ?_;refine rd 14 λK hK=>?_;go_simp
  (go_at_call 113;refine IR (G _) λw5 hx=>?_;have E:=E.trans hx;clear hx)
  go_wp2_with fail;refine KO (LM _ E) λo9=>?_;refine tk 15 ?_;refine tk 16 ?_;refine rd 21 λK hK=>?_;go_simp
  (go_at_call 116;refine IR (HNU _ E) λw6 hx=>?_;have E:=E.trans hx;clear hx)
  go_wp2_with fail;refine KO (LM _ E) λo9=>?_;refine rd 22 λK hK=>?_;go_simp
  (go_at_call 113;refine IR (HW3 _) λw7 hx=>?_;have E:=E.trans hx;clear hx)
  go_wp2_with fail;refine KO (LM _ E) λo9=>?_;refine tk 23 ?_;refine tk 24 ?_;refine Pi j8 ?_ _;have HXF:=I ((Ha.trans A0).trans E);go_wp2;go_ret;exact⟨cj HTX.o,HXF⟩
end
