import Derived.Test.YtdadoignenffgaaGreatDoorSvAllG34
import Derived.Test.YtdadoignenffgaaGreatDoorSvAllG29
import Derived.Test.YtdadoignenffgaaGreatDoorSvAllG33
import Derived.Test.YtdadoignenffgaaGreatDoorSvAllG32
import Derived.Test.YtdadoignenffgaaGreatDoorSvAllG46
import Derived.Test.YtdadoignenffgaaGreatDoorSvAllG45
import Derived.Test.YtdadoignenffgaaGreatDoorSvAllG7
import Derived.StillTailTactics
set_option linter.unusedVariables false
set_option linter.unusedSimpArgs false
namespace Go.Proofs.YtdadoignenffgaaGreatDoor
variable{a:j6}{A:j5}{B c n base:Nat}{r:yu}{R:(Nat->Int)->Prop}{C Rw:j4}{V:j7}{w w1:World}{v IK:Value}
set_option maxHeartbeats 16000000
theorem mulN{a b:Int}{A:Nat}(h:a.natAbs<=A)(k:b.natAbs<=B):(a*b).natAbs<=A*B:=by rw[Int.natAbs_mul];exact Nat.mul_le_mul h k
theorem T4{x:j8}{M:Nat}{m:Int}(hv:o9 x=true)(hM:1<=M)(h:(M:Rat)*val x=(m:Rat)):Fr x m (M:Int):=by
 refine⟨hv,by omega,?_⟩;have hb:=aL hv;have h2:((x.2:Int):Rat)≠0:=ej e7;unfold val at h;have e:((x.1:Int):Rat)*(M:Rat)=(m:Rat)*(x.2:Rat):=by grind
 have e2:(((x.1*(M:Int)):Int):Rat)=((m*x.2:Int):Rat):=by
  rw[Rat.intCast_mul,Rat.intCast_mul,<-e];have:(((M:Nat):Int):Rat)=(M:Rat):=by push_cast;rfl
  rw[this]
 exact_mod_cast e2
theorem QG:∀n:Fin 5,Dr n.val 1<=2048:=by decide
open Go.RowKit
def jI(R:(Nat->Int)->Prop)(y:Nat->Rat)(n:Nat):Prop:=∀r,R r->∃m:Int,r7 (fun i=>((r i:Int):Rat)*y i) n=(m:Rat)
def Gd(R:(Nat->Int)->Prop)(b:Nat->Int)(n:Nat):Prop:=∀z:Nat->Rat,(∀r,R r->r7 (fun i=>((r i:Int):Rat)*z i) n=0)->r7 (fun i=>((b i:Int):Rat)*z i) n=0
def Den(b:Nat->Int)(y:Nat->Rat)(n K:Nat):Prop:=∃M:Nat,1<=M/\M<=K/\∃m:Int,(M:Rat)*r7 (fun i=>((b i:Int):Rat)*y i) n=(m:Rat)
def oH(R:(Nat->Int)->Prop)(r:Nat->Int)(n:Nat)(s:Nat->Int):Prop:=∃q,R q/\∀i,s i=r n*q i-q n*r i
theorem ig{p c:Int}{q r s:Nat->Int}(hs:∀i,s i=p*q i-c*r i)(x:Nat->Rat):r7 (fun i=>((s i:Int):Rat)*x i) n=(p:Rat)*r7 (fun i=>((q i:Int):Rat)*x i) n+(-(c:Rat))*r7 (fun i=>((r i:Int):Rat)*x i) n:=by
 rw[<-eJ,<-hO];refine br fun i hi=>?_
 rw[hs i,Rat.intCast_sub,Rat.intCast_mul,Rat.intCast_mul]
 grind
theorem oK{K:Nat}{b r:Nat->Int}{y:Nat->Rat}(hr:R r)(O:r n≠0)(hy:jI R y (n+1))(hk:Gd R b (n+1))
 (ih:jI (oH R r n) y n->Gd (oH R r n) (fun i=>r n*b i-b n*r i) n->Den (fun i=>r n*b i-b n*r i) y n K):Den b y (n+1) ((r n).natAbs*K):=by
 obtain⟨p,hp⟩:=b9 (r n);obtain⟨G,I⟩:=hy r hr;simp only[r7]at I;rw[<-hp]at I O;have vK:(p:Rat)≠0:=ej O;unfold oH at ih;rw[<-hp]at ih⊢
 obtain⟨M,Z,J,m,hm⟩:=ih (by
  rintro s ⟨q,hq,hs⟩;obtain⟨Q,E⟩:=hy q hq;simp only[r7]at E;refine⟨p*Q-q n*G,?_⟩;rw[ig hs y,Rat.intCast_sub,Rat.intCast_mul,Rat.intCast_mul,<-E,<-I]
  grind)
  (by
    intro z hz
    have A4:=hk (fun i=>if i=n then-r7 (fun i=>((r i:Int):Rat)*z i) n/(p:Rat) else z i) (fun q hq=>by
     have h1:=hz (fun i=>p*q i-q n*r i) ⟨q,hq,fun _=>rfl⟩;rw[ig (fun _=>rfl) z]at h1;simp only[r7,if_true];have e:r7 (fun k=>((q k:Int):Rat)*(if k=n then-r7 (fun i=>((r i:Int):Rat)*z i) n/(p:Rat) else z k)) n=r7 (fun i=>((q i:Int):Rat)*z i) n:=br fun i hi=>by rw[if_neg e7]
     rw[e];generalize r7 (fun i=>((q i:Int):Rat)*z i) n=sq at h1⊢;generalize r7 (fun i=>((r i:Int):Rat)*z i) n=sr at h1⊢
     grind)
    rw[ig (fun _=>rfl) z];simp only[r7,if_true]at A4;have e:r7 (fun k=>((b k:Int):Rat)*(if k=n then-r7 (fun i=>((r i:Int):Rat)*z i) n/(p:Rat) else z k)) n=r7 (fun i=>((b i:Int):Rat)*z i) n:=br fun i hi=>by rw[if_neg e7]
    rw[e]at A4;generalize r7 (fun i=>((b i:Int):Rat)*z i) n=sb at A4⊢;generalize r7 (fun i=>((r i:Int):Rat)*z i) n=sr at A4⊢
    grind)
 rw[ig (fun _=>rfl) y]at hm;refine⟨p.natAbs*M,?_,Nat.mul_le_mul (Nat.le_refl _) J,?_⟩
 ·have:1<=p.natAbs:=by omega
  exact Nat.mul_le_mul this Z
 ·have U:((p.natAbs:Int):Rat)=(p:Rat)∨((p.natAbs:Int):Rat)=-(p:Rat):=by
   rcases Int.natAbs_eq p with h|h
   ·left;rw[<-h]
   ·right;rw[<-Rat.intCast_neg];congr 1;omega
  have TH:((p.natAbs*M:Nat):Rat)=((p.natAbs:Int):Rat)*(M:Rat):=by push_cast;rfl
  have VH:(((M:Nat):Int):Rat)=(M:Rat):=by push_cast;rfl
  have key:(p:Rat)*(M:Rat)*(r7 (fun i=>((b i:Int):Rat)*y i) n+(b n:Rat)*y n)=((m+(M:Int)*(b n*G):Int):Rat):=by
   rw[Rat.intCast_add,Rat.intCast_mul,Rat.intCast_mul,VH,<-hm,<-I];generalize r7 (fun i=>((b i:Int):Rat)*y i) n=sb;generalize r7 (fun i=>((r i:Int):Rat)*y i) n=sr
   grind
  rw[TH];simp only[r7]
  rcases U with h|h
  ·exact⟨m+(M:Int)*(b n*G),by rw[h];exact key⟩
  ·refine⟨-(m+(M:Int)*(b n*G)),?_⟩;rw[h,Rat.intCast_neg,<-key]
   grind
theorem mV:∀{n B C:Nat},B<=C->Dr n B<=Dr n C
 | 0,_,_,_=>Nat.le_refl _
 | n+1,B,C,h=>Nat.mul_le_mul h (mV (Nat.mul_le_mul (Nat.mul_le_mul (Nat.le_refl 2) h) h))
theorem Nx(h:1<=B):Dr n B<=Dr (n+1) B:=by
 have h1:B<=2*B*B:=by
  have:=Nat.mul_le_mul (Nat.le_refl B) (show 1<=2*B by omega);rw[Nat.mul_one]at this;rw[Nat.mul_comm (2*B) B];exact this
 have h2:Dr n B<=Dr n (2*B*B):=mV h1;have h3:=Nat.mul_le_mul h h2;rw[Nat.one_mul]at h3;exact h3
theorem oJ{K:Nat}{b:Nat->Int}{y:Nat->Rat}(h0:∀r,R r->r n=0)(hy:jI R y (n+1))(hk:Gd R b (n+1))(ih:jI R y n->Gd R b n->Den b y n K):Den b y (n+1) K:=by
 have e0:((0:Int):Rat)=0:=rfl;have hb:((b n:Int):Rat)=0:=by
  have:=hk (fun i=>if i=n then 1 else 0) (fun r hr=>em fun i hi=>by
   by_cases e:i=n
   ·subst e;rw[h0 r hr,e0];grind
   ·rw[if_neg e];grind)
  simp only[r7,if_true]at this;rw[em (fun i hi=>by rw[if_neg e7];grind)]at this
  grind
 obtain⟨M,h1,h2,m,hm⟩:=ih (fun r hr=>by
  obtain⟨m,hm⟩:=hy r hr;simp only[r7]at hm;rw[h0 r hr,e0]at hm
  exact⟨m,by rw[<-hm];grind⟩)
  (fun z hz=>by
    have:=hk (fun i=>if i=n then 0 else z i) (fun r hr=>by
     simp only[r7,if_true];rw[br (g:=fun i=>((r i:Int):Rat)*z i) (fun i hi=>by rw[if_neg e7]),hz r hr]
     grind)
    simp only[r7,if_true]at this;rw[br (g:=fun i=>((b i:Int):Rat)*z i) (fun i hi=>by rw[if_neg e7])]at this
    grind)
 refine⟨M,h1,h2,m,?_⟩;simp only[r7];rw[hb,<-hm]
 grind
theorem iJ:∀(n B:Nat) (R:(Nat->Int)->Prop) (b:Nat->Int) (y:Nat->Rat),1<=B->(∀r,R r->∀i,i<n->-(B:Int)<=r i/\r i<=B)->jI R y n->Gd R b n->Den b y n (Dr n B)
 | 0,B,R,b,y,_,_,_,_=>⟨1,Nat.le_refl _,Nat.le_refl _,0,by simp only[r7];have e0:((0:Int):Rat)=0:=rfl;rw[e0];grind⟩
 | n+1,B,R,b,y,h1,hB,hy,hk=>by
   by_cases hno:∀r,R r->r n=0
   ·obtain⟨M,m1,m2,m3⟩:=oJ hno hy hk (iJ n B R b y h1 (fun r hr i hi=>hB r hr i e7));exact⟨M,m1,Nat.le_trans m2 (Nx h1),m3⟩
   ·obtain⟨r,hr,E⟩:∃r,R r/\r n≠0:=by
     refine Classical.byContradiction fun hh=>hno fun r hr=>Classical.byContradiction fun h=>hh ⟨r,hr,h⟩
    have hpB:=hB r hr n e7
    obtain⟨M,m1,m2,m3⟩:=oK hr E hy hk (iJ n (2*B*B) _ _ y (Nat.mul_le_mul (Nat.mul_le_mul (show 1<=2 by omega) h1) h1) (by
     rintro s ⟨q,hq,hs⟩ i hi;rw[hs i];have:=KN (B:=(B:Int)) e7 hpB (hB q hq i e7) (hB q hq n e7) (hB r hr i e7);have e:((2*B*B:Nat):Int)=2*(B:Int)*B:=by push_cast;rfl
     rw[e];exact this))
    exact⟨M,m1,Nat.le_trans m2 (Nat.mul_le_mul e7 (Nat.le_refl _)),m3⟩
theorem Ny{p a c r:Int}(hp:p=1)(h2:0<=a/\a<=1)(h3:0<=c/\c<=1)(h4:0<=r/\r<=1):-1<=p*a-c*r/\p*a-c*r<=1:=by
 subst hp
 rcases(by omega:c=0∨c=1)with rfl|rfl<;>omega
theorem rZ(n:Nat)(R:(Nat->Int)->Prop)(b:Nat->Int)(y:Nat->Rat)(E:∀r,R r->∀i,i<n+1->0<=r i/\r i<=1)(hy:jI R y (n+1))(hk:Gd R b (n+1)):Den b y (n+1) (Dr n 1):=by
 by_cases hno:∀r,R r->r n=0
 ·exact oJ hno hy hk (iJ n 1 R b y (Nat.le_refl _) (fun r hr i hi=>by have:=E r hr i e7;omega))
 ·obtain⟨r,hr,G⟩:∃r,R r/\r n≠0:=by
   refine Classical.byContradiction fun hh=>hno fun r hr=>Classical.byContradiction fun h=>hh ⟨r,hr,h⟩
  have hp:=E r hr n e7;have Dk:r n=1:=by omega
  obtain⟨M,m1,m2,m3⟩:=oK hr G hy hk (iJ n 1 _ _ y (Nat.le_refl _) (by
   rintro s ⟨q,hq,hs⟩ i hi;rw[hs i]
   exact Ny Dk (E q hq i e7) (E q hq n e7) (E r hr i e7)))
  refine⟨M,m1,?_,m3⟩;rw[Dk]at m2
  simpa using m2
theorem oq:∀{m:Nat} {f:Nat->Rat},(∀k,k<m->0<=f k)->r7 f m<=0->∀k,k<m->f k=0
 | 0,_,_,_,k,hk=>absurd hk e7
 | m+1,f,h,hs,k,hk=>by
   have h1:=mO (m:=m) (fun k hk=>h k e7);have h2:=h m e7;simp only[r7]at hs
   rcases Nat.lt_or_ge k m with E|E
   ·exact oq (fun k hk=>h k e7) (by grind) k E
   ·obtain rfl:k=m:=by omega
    grind
theorem rS{B:j7}(h:Cert A B C r){j:Nat}(E:j<C.length)(hx:r8 r.X j≠0):r7 (fun i=>r8 r.Y i*(BX A i j:Rat)) A.length=r8 C j:=by
 have e1:r7 (fun i=>r8 r.Y i*((B[i]?.getD 0:Int):Rat)) A.length=r7 (fun j=>r7 (fun i=>r8 r.Y i*((BX A i j:Rat)*r8 r.X j)) A.length) C.length:=by
  rw[ir (fun i j=>r8 r.Y i*((BX A i j:Rat)*r8 r.X j))];exact br fun i hi=>by rw[eJ,h.row i hi]
 have e2:r7 (fun j=>r8 r.X j*(r8 C j-r7 (fun i=>r8 r.Y i*(BX A i j:Rat)) A.length)) C.length=0:=by
  have e3:r7 (fun j=>r8 r.X j*(r8 C j-r7 (fun i=>r8 r.Y i*(BX A i j:Rat)) A.length)) C.length=r7 (fun j=>r8 C j*r8 r.X j+(-1)*r7 (fun i=>r8 r.Y i*((BX A i j:Rat)*r8 r.X j)) A.length) C.length:=br fun j E=>by
   have:r7 (fun i=>r8 r.Y i*((BX A i j:Rat)*r8 r.X j)) A.length=r8 r.X j*r7 (fun i=>r8 r.Y i*(BX A i j:Rat)) A.length:=by
    rw[<-eJ];exact br fun i hi=>by grind
   rw[this];grind
  rw[e3,hO,<-h.cx,<-e1,<-h.yb]
  grind
 have:=oq (fun j E=>by
  have h1:=h.x0 j E;have h2:=h.ve j E
  exact Rat.mul_nonneg h1 (by grind)) (show r7 (fun j=>r8 r.X j*(r8 C j-r7 (fun i=>r8 r.Y i*(BX A i j:Rat)) A.length)) C.length<=(0:Rat)by rw[e2];exact Rat.le_refl) j E
 have h0:r8 r.X j*(r8 C j-r7 (fun i=>r8 r.Y i*(BX A i j:Rat)) A.length)=0:=this
 rcases Rat.mul_eq_zero.1 h0 with h3|h3
 ·exact absurd h3 hx
 ·grind
theorem tA{B:j7}(h:Cert A B C r)(E:∀j,j<C.length->r8 r.X j≠0->R (fun i=>BX A i j)):Gd R (fun i=>B[i]?.getD 0) A.length:=by
 intro z hz;have e1:r7 (fun i=>((B[i]?.getD 0:Int):Rat)*z i) A.length=r7 (fun j=>r7 (fun i=>z i*((BX A i j:Rat)*r8 r.X j)) A.length) C.length:=by
  rw[ir (fun i j=>z i*((BX A i j:Rat)*r8 r.X j))];exact br fun i hi=>by rw[eJ,h.row i hi];grind
 rw[e1];refine em fun j hj=>?_
 have e:r7 (fun i=>z i*((BX A i j:Rat)*r8 r.X j)) A.length=r8 r.X j*r7 (fun i=>((BX A i j:Int):Rat)*z i) A.length:=by
  rw[<-eJ];exact br fun i hi=>by grind
 rw[e];by_cases hx:r8 r.X j=0
 ·rw[hx];grind
 ·rw[hz _ (E j hj hx)];grind
theorem IV:∀n:Fin 6,∀s:Fin 32,s.val+1<cN n.val->∃i:Fin 5,i.val<n.val/\bit ((1+s.val:Nat):Int) i.val=true:=by decide +kernel
theorem qm{f:Nat->Rat}{k:Nat}:∀{m:Nat},k<m->(∀i,i<m->0<=f i)->f k<=r7 f m
 | 0,h,_=>absurd h e7
 | m+1,h,hf=>by
   simp only[r7]
   rcases Nat.lt_or_ge k m with E|E
   ·have:=qm E (fun i hi=>hf i e7);have:=hf m e7
    grind
   ·obtain rfl:k=m:=by omega
    have:=mO (m:=k) (fun i hi=>hf i e7)
    grind
theorem mc(c:Rat):∀m:Nat,r7 (fun _=>c) m=(m:Rat)*c
 | 0=>by simp only[r7];have:((0:Nat):Rat)=0:=rfl;rw[this];grind
 | m+1=>by
   simp only[r7];rw[mc c m];have:((m+1:Nat):Rat)=(m:Rat)+1:=by push_cast;rfl
   rw[this];grind
theorem KP(zv:1<=n)(hn:n<=5)(O:V.length=cN n)(hb:∀x∈V,-500<=x/\x<=500)(hc:Cert (cq n (cN n)) (cL n) (bg V) r):
 ∃(M:Nat) (m:Int),1<=M/\M<=2048/\(M:Rat)*val r.value=(m:Rat)/\m.natAbs<=2500*M:=by
 have Nl:=cW n hn;have J:(cq n (cN n)).length=n:=by unfold cq xz;simp
 have hCl:(bg V).length=cN n-1:=by unfold bg;rw[List.length_map,List.length_drop,O]
 have hcv:∀j,j<cN n-1->r8 (bg V) j=((- (V[1+j]?.getD 0):Int):Rat):=fun j G=>by
  have hl:1+j<V.length:=by omega
  have e:(bg V)[j]?.getD (0,0)=(-(V[1+j]?.getD 0),1):=by
   unfold bg;rw[List.getElem?_map,List.getElem?_drop,List.getElem?_eq_getElem hl]
   rfl
  unfold r8;rw[e,ed]
 obtain⟨E,rfl⟩:∃E,n=E+1:=⟨n-1,by omega⟩;obtain⟨M,m1,m2,m,hm⟩:=rZ E (fun f=>∃j,j<cN (E+1)-1/\r8 r.X j≠0/\f=fun i=>BX (cq (E+1) (cN (E+1))) i j) (fun i=>(cL (E+1))[i]?.getD 0) (fun i=>r8 r.Y i)
  (by
    rintro f ⟨j,G,_,rfl⟩ i hi;simp only;rw[ky hi e7 G]
    exact ND _)
  (by
    rintro f ⟨j,G,hx,rfl⟩;have:=rS hc (j:=j) e7 hx;rw[J,hcv j G]at this
    exact⟨_,by rw[<-this];exact br fun i hi=>by grind⟩)
  (by
    have:=tA hc (R:=fun f=>∃j,j<cN (E+1)-1/\r8 r.X j≠0/\f=fun i=>BX (cq (E+1) (cN (E+1))) i j) (fun j G hx=>⟨j,by omega,hx,rfl⟩);rw[J]at this
    exact this)
 have Dd:=hc.yb;rw[J]at Dd;have e:r7 (fun i=>(((cL (E+1))[i]?.getD 0:Int):Rat)*r8 r.Y i) (E+1)=val r.value:=by rw[Dd];exact br fun i hi=>by grind
 rw[e]at hm;have hd:=QG ⟨E,by omega⟩;simp only at hd;refine⟨M,m,m1,by omega,hm,?_⟩;have hx:r7 (fun j=>r8 r.X j) (cN (E+1)-1)<=((E+1:Nat):Rat):=by
  have e1:r7 (fun j=>r7 (fun i=>(BX (cq (E+1) (cN (E+1))) i j:Rat)*r8 r.X j) (E+1)) (cN (E+1)-1)=((E+1:Nat):Rat):=by
   rw[ir (fun i j=>(BX (cq (E+1) (cN (E+1))) i j:Rat)*r8 r.X j),br (g:=fun _=>(1:Rat)) (fun i hi=>by
    have:=hc.row i e7;rw[hCl]at this;rw[this];unfold cL;rw[List.getElem?_replicate,if_pos hi]
    rfl),mc]
   grind
  rw[<-e1];refine jR fun j G=>?_
  obtain⟨i,VA,U⟩:=IV ⟨E+1,by omega⟩ ⟨j,by omega⟩ (by simp only;omega);have uS:=hc.x0 j e7;have Z:∀k,k<E+1->0<=(BX (cq (E+1) (cN (E+1))) k j:Rat)*r8 r.X j:=fun k hk=>by
   rw[ky hk e7 G,oB]
   split<;>grind
  have:=qm (k:=i.val) VA Z;rw[ky VA e7 G,oB,if_pos U]at this
  grind
 have Cy:=hc.cx;rw[hCl]at Cy;have I:val r.value<=2500:=by
  rw[Cy];have:r7 (fun j=>r8 (bg V) j*r8 r.X j) (cN (E+1)-1)<=r7 (fun j=>(500:Rat)*r8 r.X j) (cN (E+1)-1):=jR fun j G=>by
   have uS:=hc.x0 j e7;rw[hcv j G];have hv:=gP hb (1+j);have:((-(V[1+j]?.getD 0):Int):Rat)<=((500:Int):Rat):=Rat.intCast_le_intCast.2 (show -(V[1+j]?.getD 0)<=500 by omega);have e5:((500:Int):Rat)=500:=rfl;rw[e5]at this;have:=Rat.mul_le_mul_of_nonneg_left this uS
   grind
  rw[eJ]at this;have Q:((E+1:Nat):Rat)<=((5:Nat):Rat):=by exact_mod_cast hn
  have e5:((5:Nat):Rat)=5:=rfl
  grind
 have hlo:-2500<=val r.value:=by
  rw[Cy];have:r7 (fun j=>(-500:Rat)*r8 r.X j) (cN (E+1)-1)<=r7 (fun j=>r8 (bg V) j*r8 r.X j) (cN (E+1)-1):=jR fun j G=>by
   have uS:=hc.x0 j e7;rw[hcv j G];have hv:=gP hb (1+j);have:((-500:Int):Rat)<=((-(V[1+j]?.getD 0):Int):Rat):=Rat.intCast_le_intCast.2 (show(-500:Int)<=-(V[1+j]?.getD 0)by omega);have e5:((-500:Int):Rat)=-500:=rfl;rw[e5]at this;have:=Rat.mul_le_mul_of_nonneg_left this uS
   grind
  rw[eJ]at this;have Q:((E+1:Nat):Rat)<=((5:Nat):Rat):=by exact_mod_cast hn
  have e5:((5:Nat):Rat)=5:=rfl
  grind
 have hM0:(0:Rat)<=(M:Rat):=by exact_mod_cast Nat.zero_le M
 have VH:(((M:Nat):Int):Rat)=(M:Rat):=by push_cast;rfl
 have u1:=Rat.mul_le_mul_of_nonneg_left I hM0;have K:=Rat.mul_le_mul_of_nonneg_left hlo hM0;rw[hm]at u1 K;have v1:((m:Int):Rat)<=((2500*(M:Int):Int):Rat):=by rw[Rat.intCast_mul,VH];have e5:((2500:Int):Rat)=2500:=rfl;rw[e5];grind
 have v2:((-2500*(M:Int):Int):Rat)<=((m:Int):Rat):=by rw[Rat.intCast_mul,VH];have e5:((-2500:Int):Rat)=-2500:=rfl;rw[e5];grind
 have v1:m<=2500*(M:Int):=Rat.intCast_le_intCast.1 v1;have v2:-2500*(M:Int)<=m:=Rat.intCast_le_intCast.1 v2;omega
theorem KS{g:Int}(hs:r.status=1):dP true g r=if 0<vP (uU r.value) (g,1) then 2 else if((dC g r).2&&(gj g r).2)=true then 1 else 3:=by
 unfold dP;rw[if_neg e8,if_neg (fun h=>h hs)]
theorem KR{g:Int}(hs:r.status=1):eh true g r=if(dC g r).2=false then 3 else if(dC g r).1.1<0 then 2 else if(gj g r).2=true then 1 else 3:=by
 unfold eh;rw[if_neg e8,if_neg (fun h=>h hs)]
theorem KQ{p:Int}:dP (aH p V) (bI p V) (be am (cq p.toNat V.length) (cL p.toNat) (bg V))=eh (aH p V) (bI p V) (be am (cq p.toNat V.length) (cL p.toNat) (bg V)):=by
 cases hg:aH p V with
 | false=>rfl
 | true =>
   obtain⟨n,rfl,h1,h5,hl,_,hb⟩:=bF hg;obtain⟨r,hr⟩:=b9 (be am (cq (n:Int).toNat V.length) (cL (n:Int).toNat) (bg V));rw[<-hr];by_cases hs:r.status=1
   ·rw[KS hs,KR hs];have I:(be am (cq n (cN n)) (cL n) (bg V)).status=1:=by rw[<-hl];rw[hr]at hs;exact hs
    obtain⟨s1,_,K,_,G,_⟩:=fq I;have E:=Nz s1 K I;have O:r=be am (cq n (cN n)) (cL n) (bg V):=by rw[hr,hl];rfl
    rw[<-O]at E G;obtain⟨M,m,m1,m2,hm,Tj⟩:=KP h1 h5 hl hb E;have J:=T4 G m1 hm;have Fa:-500<=bI (n:Int) V/\bI (n:Int) V<=500:=by rw[fO hg];exact gP hb _
    have z1:=J.size;have b1:=aL G;have n1:=mulN (A:=500) (B:=2048) (a:=bI (n:Int) V) (b:=(M:Int)) e7 e7;have n2:=mulN (A:=500) (B:=2048) (a:=bI (n:Int) V) (b:=r.value.2) e7 e7;obtain⟨c,c1,c2⟩:=(Fr.int (bI (n:Int) V) e7 e7).add J (z:=bI (n:Int) V*(M:Int)+m) (F:=(M:Int)) e7 e7 e7 (by simp only;omega) (by grind);have Fw:(dC (bI (n:Int) V) r).2=true:=by unfold dC;rw[c1]
    have hss:=th Fw;rw[Fw];by_cases h6:(dC (bI (n:Int) V) r).1.1<0
    ·rw[if_pos (hss.2 h6),if_neg (show¬true=false by simp),if_pos h6]
    ·rw[if_neg (fun h=>h6 (hss.1 h)),if_neg (show¬true=false by simp),if_neg h6,Bool.true_and]
   ·unfold dP eh;rw[if_neg (show¬true=false by simp),if_neg (show¬true=false by simp),if_pos hs,if_pos hs]
set_option maxRecDepth 100000
def fh(w:World)(base:Nat)(e:Ending)(r:AE):Prop :=
 ∃pa pn pc sa sn sc,e=.returned (.agg #[.bool r.ok,.slice pa pn pc,.slice sa sn sc,.int .i64 r.rounds])/\l9 w base (.slice pa pn pc) r.pt/\uT yr 83 w base (.slice sa sn sc) r.st
theorem fh.no(w:World)(base:Nat):fh w base (.returned (.agg #[.bool false,.slice none 0 0,.slice none 0 0,.int .i64 0])) AE.no :=
 ⟨Option.none,0,0,Option.none,0,0,rfl,l9.nil _ _,uT.nil _ _ _ _⟩
theorem yC{g:Nat}{a b c d:Value}{t:TypeId}(hb:w.heap[g]?=some (.cells #[a,b,c,d] t (0,0))):
 w.cell? ⟨g,0,none⟩=some a/\w.cell? ⟨g,1,none⟩=some b/\w.cell? ⟨g,2,none⟩=some c/\w.cell? ⟨g,3,none⟩=some d/\∀k,w.frozen? ⟨g,k,none⟩=false:=by
 refine⟨?_,?_,?_,?_,fun k=>frozen_of_row w g k _ _ hb⟩<;>rw[cell_of_row w g _ _ _ _ hb]<;>rfl
theorem Mx{W:World}{r:Nat}{x0 x1 x2 E:Value}{t:TypeId}(hb:W.heap[r]?=some (.cells #[x0,x1,x2,E] t (0,0)))(v0 v1 v2 v3:Value):
 ((((W.setCell ⟨r,0,none⟩ v0).setCell ⟨r,1,none⟩ v1).setCell ⟨r,2,none⟩ v2).setCell ⟨r,3,none⟩ v3).heap[r]?=some (.cells #[v0,v1,v2,v3] t (0,0)) /\
   ∀b,b≠r->((((W.setCell ⟨r,0,none⟩ v0).setCell ⟨r,1,none⟩ v1).setCell ⟨r,2,none⟩ v2).setCell ⟨r,3,none⟩ v3).heap[b]?=W.heap[b]?:=by
 have h1:=heap_setCell_same W r 0 _ t v0 hb;have h2:=heap_setCell_same _ r 1 _ t v1 h1;have h3:=heap_setCell_same _ r 2 _ t v2 h2;have h4:=heap_setCell_same _ r 3 _ t v3 h3;exact⟨h4,fun b wU=>(heap_setCell_other _ _ _ _ wU).trans ((heap_setCell_other _ _ _ _ wU).trans ((heap_setCell_other _ _ _ _ wU).trans (heap_setCell_other _ _ _ _ wU)))⟩
theorem Oi{W:World}{r:Nat}(hX:Ext w W)(hr:w.heap.size<=r)(v0 v1 v2 v3:Value):Ext w ((((W.setCell ⟨r,0,none⟩ v0).setCell ⟨r,1,none⟩ v1).setCell ⟨r,2,none⟩ v2).setCell ⟨r,3,none⟩ v3) :=
 (((hX.store 0 hr v0).store 1 hr v1).store 2 hr v2).store 3 hr v3
structure wB(W wr:World)(B:Nat)(vp vs vf:Value)(pt:j4)(L:j2)(fx:j7)(k:Nat):Prop where
 box:wr.heap[B]?=some (.cells #[.bool true,vp,vs,.int .i64 (k:Int)] 44 (0,0))
 pt:l9 wr (B+1) vp pt
 st:uT yr 83 wr (B+1) vs L
 fx:o5 wr (B+1) vf fx
 ext:Ext W wr
 lo:W.heap.size<=B
section
variable{W wr w':World}{B:Nat}{vp vs vf:Value}{pt:j4}{L:j2}{fx:j7}{k:Nat}
theorem wB.grow(h:wB W wr B vp vs vf pt L fx k)(hx:Ext wr w'):wB W w' B vp vs vf pt L fx k:=⟨hx.blk h.box,h.pt.ext hx,h.st.ext hx,h.fx.ext hx,h.ext.trans hx,h.lo⟩
theorem wB.lt(h:wB W wr B vp vs vf pt L fx k):B<wr.heap.size:=lt_of_block h.box
theorem wB.off{v:Value}(h:∀k,v.ownBlock=some k->B+1<=k/\k<wr.heap.size)(j:Nat)(u:Value):∀k,v.ownBlock=some k->(wr.setCell ⟨B,j,none⟩ u).heap[k]?=wr.heap[k]?:=fun k hk=>heap_setCell_other _ _ _ _ (by have:=(h k hk).1;show k≠B;omega)
theorem wB.Pp(h:wB W wr B vp vs vf pt L fx k){IK:Value}{Rw:j4}(hp:l9 wr (B+1) IK Rw):wB W (wr.setCell ⟨B,1,none⟩ IK) B IK vs vf Rw L fx k :=
 ⟨heap_setCell_same wr B 1 _ _ _ h.box,hp.keep (wB.off hp.lt 1 _),h.st.keep (wB.off h.st.lt 1 _),h.fx.keep (wB.off h.fx.lt 1 _),h.ext.store 1 h.lo _,h.lo⟩
theorem wB.Sl(h:wB W wr B vp vs vf pt L fx k){k':Nat}{i:Int}(hi:i=(k':Int)):wB W (wr.setCell ⟨B,3,none⟩ (.int .i64 i)) B vp vs vf pt L fx k':=by
 subst hi;exact⟨heap_setCell_same wr B 3 _ _ _ h.box,h.pt.keep (wB.off h.pt.lt 3 _),h.st.keep (wB.off h.st.lt 3 _),h.fx.keep (wB.off h.fx.lt 3 _),h.ext.store 3 h.lo _,h.lo⟩
theorem wB.OU(h:wB W wr B vp vs vf pt L fx k){w1:World}(hx:Ext wr w1){E:Value}{I:j2}(hg:w1.grownBy w' vs.ownBlock)(G:uT yr 83 w' (B+1) E I):wB W (w'.setCell ⟨B,2,none⟩ E) B vp E vf pt I fx k:=by
 have hb:=(hg.block B (lt_of_block (hx.blk h.box)) (fun e=>by have:=(h.st.lt B e.symm).1;omega)).trans (hx.blk h.box);have h1:l9 w' (B+1) vp pt:=bM (h.pt.ext hx) (h.st.ext hx) (by decide) hg;have h2:o5 w' (B+1) vf fx:=bM (h.fx.ext hx) (h.st.ext hx) (by decide) hg;exact⟨heap_setCell_same w' B 2 _ _ _ hb,h1.keep (wB.off h1.lt 2 _),G.keep (wB.off G.lt 2 _),h2.keep (wB.off h2.lt 2 _),((h.ext.trans hx).grown hg (fun j hj=>by have:=(h.st.lt j hj).1;have:=h.lo;omega)).store 2 h.lo _,h.lo⟩
theorem wB.TV(h:wB W wr B vp vs vf pt L fx k){w1:World}(hx:Ext wr w1){IK:Value}{Rw:j4}(hg:w1.grownBy w' vp.ownBlock)(E:l9 w' (B+1) IK Rw):wB W (w'.setCell ⟨B,1,none⟩ IK) B IK vs vf Rw L fx k:=by
 have hb:=(hg.block B (lt_of_block (hx.blk h.box)) (fun e=>by have:=(h.pt.lt B e.symm).1;omega)).trans (hx.blk h.box);have h1:uT yr 83 w' (B+1) vs L:=bM (h.st.ext hx) (h.pt.ext hx) (by decide) hg;have h2:o5 w' (B+1) vf fx:=bM (h.fx.ext hx) (h.pt.ext hx) (by decide) hg;exact⟨heap_setCell_same w' B 1 _ _ _ hb,E.keep (wB.off E.lt 1 _),h1.keep (wB.off h1.lt 1 _),h2.keep (wB.off h2.lt 1 _),((h.ext.trans hx).grown hg (fun j hj=>by have:=(h.pt.lt j hj).1;have:=h.lo;omega)).store 1 h.lo _,h.lo⟩
theorem wB.TY(h:wB W wr B vp vs vf pt L fx k){w1:World}(hx:Ext wr w1){E:Value}{G:j7}(hg:w1.grownBy w' vf.ownBlock)(I:o5 w' (B+1) E G):wB W w' B vp vs E pt L G k:=by
 have hb:=(hg.block B (lt_of_block (hx.blk h.box)) (fun e=>by have:=(h.fx.lt B e.symm).1;omega)).trans (hx.blk h.box);have h1:l9 w' (B+1) vp pt:=bM (h.pt.ext hx) (h.fx.ext hx) (by decide) hg;have h2:uT yr 83 w' (B+1) vs L:=bM (h.st.ext hx) (h.fx.ext hx) (by decide) hg;exact⟨hb,h1,h2,I,(h.ext.trans hx).grown hg (fun j hj=>by have:=(h.fx.lt j hj).1;have:=h.lo;omega),h.lo⟩
end
structure yg(lo:Nat)(w w':World):Prop where
 size:w.heap.size<=w'.heap.size
 block:∀k,lo<=k->k<w.heap.size->w'.heap[k]?=w.heap[k]?
def Off(lo hi:Nat)(v:Value):Prop:=∀k,v.ownBlock=some k->k<lo∨hi<=k
theorem Off.of{lo hi:Nat}(h:∀k,v.ownBlock=some k->base<=k/\k<w.heap.size)(hl:w.heap.size<=lo):Off lo hi v:=fun k hk=>Or.inl (j1 ((h k hk).2))
theorem Off.nil(lo hi n c:Nat):Off lo hi (.slice none n c):=fun k hk=>by cases hk
theorem Off.near{lo hi:Nat}{E:Value}(h:Off lo hi v)(hn:y9 w v E)(hs:hi<=w.heap.size):Off lo hi E:=fun k hk=>by
 rcases hn k hk with h1|h1
 ·exact h k h1
 ·exact Or.inr e7
section
variable{lo:Nat}{w w1 w2:World}
theorem yg.refl(lo:Nat)(w:World):yg lo w w:=⟨Nat.le_refl _,fun _ _ _=>rfl⟩
theorem yg.ext(h:yg lo w w1)(hx:Ext w1 w2):yg lo w w2:=⟨Nat.le_trans h.size hx.size,fun k h1 h2=>(hx.block k (Nat.lt_of_lt_of_le h2 h.size)).trans (h.block k h1 h2)⟩
theorem yg.grown(h:yg lo w w1){v:Value}(hg:w1.grownBy w2 v.ownBlock)(E:Off lo w.heap.size v):yg lo w w2:=⟨Nat.le_trans h.size hg.size,fun k h1 h2=>(hg.block k (Nat.lt_of_lt_of_le h2 h.size) (fun e=>by have:=E k e.symm;omega)).trans (h.block k h1 h2)⟩
theorem yg.set(h:yg lo w w1){B j:Nat}(hB:B<lo)(v:Value):yg lo w (w1.setCell ⟨B,j,none⟩ v):=⟨by rw[World.size_setCell];exact h.size,fun k h1 h2=>(heap_setCell_other _ _ _ _ (by show k≠B;omega)).trans (h.block k h1 h2)⟩
theorem yg.on(h:yg lo w w1){P:World->Prop}(E:On lo w P):On lo w1 P:=E.keep h.size h.block
theorem yg.blk(h:yg lo w w1){g:Nat}{o:Obj}(hg:lo<=g)(hb:w.heap[g]?=some o):w1.heap[g]?=some o:=(h.block g hg (lt_of_block hb)).trans hb
theorem yg.ints(h:yg lo w w1){base:Nat}{v:Value}{l:j7}(hb:lo<=base)(E:o5 w base v l):o5 w1 base v l:=E.keep fun k hk=>h.block k (j1 ((E.lt k hk).1)) (E.lt k hk).2
end
theorem lg.lpc{e:Ending}{B:j7}{ok:Bool}(h:lg w base e A B C ok):
 ∃a E ca b nb cb c nc cc,e=.returned (.tuple #[Al a E ca b nb cb c nc cc,.bool ok])/\Bf w a E ca b nb cb c nc cc A B C:=by
 obtain⟨va,vb,vc,vs,rfl,h1,h2,h3,h4,h5⟩:=h;obtain⟨a,E,ca,rfl,_⟩:=h1.var;obtain⟨b,nb,cb,rfl,_⟩:=h3.var;obtain⟨c,nc,cc,rfl,_⟩:=h4.var;exact⟨_,_,_,_,_,_,_,_,_,rfl,(show cV w base (.slice a E ca) A from⟨vs,h1,h2⟩).DC,h3.ints,h4.uZ⟩
theorem uT.Fh{cap:Nat}{L:j2}(h:uT yr 83 w base (.slice a n cap) L):xV w a n cap L:=h.A2.Fh
theorem rm(x:Int)(P:j2)(t:Int×Int×Int):(x::P.map fun f=>f.1)++[t.1]=x::(P++[t]).map fun f=>f.1:=by simp
theorem KE{V:j7}{L:j2}{s:Int}(hs:s<=1000)(h:∀f∈L,f.1<=1000):∀k:Nat,(s::L.map (·.1))[k]?.getD 0<=9223372036854775807:=by
 intro k;by_cases hk:k<(s::L.map (·.1)).length
 ·rw[List.getElem?_eq_getElem hk,Option.getD_some];have hm:=List.getElem_mem hk
  rcases List.mem_cons.1 hm with e|e
  ·rw[e];omega
  ·obtain⟨f,hf,he⟩:=List.mem_map.1 e;rw[<-he];have:=h f hf;omega
 ·rw[List.getElem?_eq_none e7];decide
def Pk(P:Program)(w:World)(fid:FuncId)(ca:Array Value)(Q:j7->Prop)(p:j7->Bool):Prop :=
 ∀(l:j7) (a:j6) (n c:Nat) (w1:World),Ext w w1->Ints w1 a n c l->Q l->Calls P fid (#[.slice a n c]++ca) w1 fun e w2=>e=.returned (.bool (p l))/\Ext w1 w2
theorem kG{cap:Nat}{L:j5}{E:FuncId}{ca:Array Value}{Q:j7->Prop}{p:j7->Bool}(h:dV w a n cap L)(hg:IsGo Tryz.prog E)(hf:Pk Tryz.prog w E ca Q p)(G:∀k,k<n->Q (L[k]?.getD [])):
 Calls Tryz.prog 134 #[.slice a n cap,.func (.func E) #[] ca] w fun e w'=>e=.returned (.int .i64 (bX p L))/\Ext w w':=by
 have hn:=h.l8;have hm:=h.o0;have HQ:=ae G;clear G;have RP:∀(args:Array Value) (w:World),(callFunc E args).run Tryz.prog w=.ok (.enter E args) w:=hg;go_enter Tryz.func134,Tryz.ntmps134
 go_wp2
 go_loopw [8] (fun i wr=>∃k:Nat,k<=n/\i=.int .i64 k/\b7 ((L.take k).all (fun x=>!p x)=true)/\Ext w wr) (fun i _=>n-(intOf i).toNat)
 case atStart=>exact⟨0,Nat.zero_le _,rfl,ae rfl,Ext.refl _⟩
 case round =>
  obtain⟨k,hk,rfl,HA,hx⟩:=hrel;by_cases hlt:k<n
  ·obtain⟨b,off,K,I,J,rfl,hc,hr⟩:=(h.ext hx).at hlt;have HL:=ae h.hlen;have HF:=ae (hf (L[k]?.getD []) K I J wr hx hr (HQ.o k hlt));clear hr;by_cases hb:p (L[k]?.getD [])=true
   ·have HB:=ae hb;go_wp2_with fail;refine HF.o.mono ?_;rintro e w2 ⟨rfl,vL⟩
    go_wp2
    go_ret;exact⟨aD (eH (j1 HL.o) HA.o HB.o).symm,hx.trans (by assumption)⟩
   ·have HB:=ae hb;simp only[Bool.not_eq_true]at hb;go_wp2_with fail;refine HF.o.mono ?_;rintro e w2 ⟨rfl,vL⟩
    go_wp2
    go_roundw
    case rel=>exact⟨k+1,by omega,by go_num,ae (by rw[eT (j1 HL.o),List.all_append,HA.o];simpa using HB.o),hx.trans (by assumption)⟩
    case measure=>simp[intOf];omega
  ·have HL:=ae h.hlen
   go_wp2
   go_ret;refine⟨aD ?_,hx⟩;have:=HA.o;rw[List.take_of_length_le (j1 HL.o)]at this;exact(dL this).symm
theorem tR{bc cap:Nat}{l:j7}(hb:w.cell? ⟨bc,0,none⟩=some (.int .i64 (c:Int)))(h:Ints w a n cap l)(hc:c<n):
 Calls Tryz.prog 135 #[.slice a n cap,.pointer (some ⟨bc,0,none⟩)] w fun e w'=>e=.returned (.bool (l[c]?.getD 0 != 0))/\w=w':=by
 obtain⟨b,off,rfl,hcc⟩:=h.at hc;have o0:=h.o0;have l8:=h.l8;clear h;go_enter Tryz.func135,Tryz.ntmps135
 go_wp2
 go_ret;exact⟨rfl,rfl⟩
theorem sz:IsGo Tryz.prog 135:=isGo Tryz.func135 e9 e9
theorem oA{bc:Nat}(hb:w.cell? ⟨bc,0,none⟩=some (.int .i64 (c:Int)))(hc:c<n):
 Pk Tryz.prog w 135 #[.pointer (some ⟨bc,0,none⟩)] (fun l=>l.length=n) (fun r=>r[c]?.getD 0 != 0):=by
 intro l a m cp w1 hx hi hq;have hm:m=n:=by rw[<-hi.hlen];exact hq
 exact(tR (hx.j9 hb) hi e7).mono fun e w2 ⟨he,hw⟩=>⟨he,hw▸Ext.refl _⟩
theorem MH{M:j5}{d:Nat}(hd:d<=M.length):bX (fun r:j7=>r[c]?.getD 0 != 0) (M.drop d)=if wP M c d<M.length then((wP M c d-d:Nat):Int) else -1:=by
 unfold bX wP;cases hf:(M.drop d).findIdx? (fun r=>r[c]?.getD 0 != 0)with
 | none=>simp
 | some k =>
   rw[List.findIdx?_eq_some_iff_getElem]at hf;obtain⟨h1,_⟩:=hf;rw[List.length_drop]at h1;simp only;rw[if_pos e7]
   congr 1
   omega
theorem KC{B:Int}:∀(l:j7) (g:Int),0<=g->g<=B->(∀x∈l,-B<=x/\x<=B)->0<=l.foldl gI g/\l.foldl gI g<=B
 | [],g,h0,h1,_=>⟨h0,h1⟩
 | x::l,g,h0,h1,h=>by
   have hx:=h x e8;have h2:gI g x<=B:=by
    by_cases hz:x=0
    ·subst hz;rw[mv];omega
    ·have:=GJ g hz;omega
   exact KC l (gI g x) (nh g x) h2 fun y hy=>h y (by simp[hy])
end Go.Proofs.YtdadoignenffgaaGreatDoor
