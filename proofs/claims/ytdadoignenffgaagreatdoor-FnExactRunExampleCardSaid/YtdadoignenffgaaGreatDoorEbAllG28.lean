import Derived.Test.YtdadoignenffgaaGreatDoorEbAllG27
import Derived.Test.YtdadoignenffgaaGreatDoorEbAllG1
import Derived.Deep.RegionWith
import Derived.Test.YtdadoignenffgaaGreatDoorEbAllG7
import Derived.Test.YtdadoignenffgaaGreatDoorEbAllG15
import Derived.Test.YtdadoignenffgaaGreatDoorEbAllG9
import Derived.Test.YtdadoignenffgaaGreatDoorEbAllG3
import Derived.Test.YtdadoignenffgaaGreatDoorEbAllG23
import Derived.Test.YtdadoignenffgaaGreatDoorEbAllG5
import Derived.Test.YtdadoignenffgaaGreatDoorEbAllG6
import Derived.Test.YtdadoignenffgaaGreatDoorEbAllG22
import Derived.Test.YtdadoignenffgaaGreatDoorEbAllG26
import Derived.Test.YtdadoignenffgaaGreatDoorEbAllG25
import Derived.Test.YtdadoignenffgaaGreatDoorEbAllG52
set_option linter.unusedVariables false
set_option linter.unusedSimpArgs false
namespace Go.Proofs.YtdadoignenffgaaGreatDoor
set_option maxHeartbeats 16000000
open Go.RowKit
def FY(s:Int)(m:Nat):List Nat:=(List.range m).filter fun(k:Nat)=>bit s k
def ES(s:Int)(m:Nat):j7:=(FY s m).map fun(k:Nat)=>(k:Int)
theorem qE(s:Int)(m:Nat):ES s (m+1)=ES s m++(if bit s m then [(m:Int)] else []):=by
 unfold ES FY;cases h:bit s m<;>simp[TP,h]
theorem sX(s:Int)(m:Nat):(ES s m).length<=m:=by
 unfold ES FY
 simpa using abG (fun(k:Nat)=>bit s k) (List.range m)
theorem Q'(s:Int)(i:Nat)(h:i<(ES s 5).length):∃k:Nat,(ES s 5)[i]?.getD 0=(k:Int)/\k<5/\bit s k=true/\(FY s 5)[i]?=some k:=by
 have h':i<(FY s 5).length:=by simpa[ES]using h
 refine⟨(FY s 5)[i],?_,?_⟩
 ·simp[ES,h']
 ·have hm:(FY s 5)[i]∈FY s 5:=vl h';have h2:=adF.1 hm;exact⟨S4.1 h2.1,h2.2,by simp[h']⟩
theorem uD(s:Nat)(hs:s<32)(w:World):
 Calls Tryz.prog 153 #[.int .i64 (s:Int)] w fun e w'=>∃v,e=.returned v/\o4 w' w.heap.size v (ES (s:Int) 5)/\Ext w w':=by
 have zU:r9 (s:Int) 0 31=true:=by unfold r9;simp;omega
 have HO:=ae (o4.made w w.heap.size (ao _));go_enter Tryz.func153,Tryz.ntmps153
 go_wp2_with (first|(go_at_call 61;refine(aq _ _ _ _).mono ?_;rintro e w' ⟨rfl,rfl⟩))
 go_loopw [9,3] (fun i o wr=>∃(k:Nat) (a1:j6) (G c1:Nat),k<=5/\i=.int .i64 (k:Int)/\o=.slice a1 G c1/\b7 (o4 wr w.heap.size (.slice a1 G c1) (ES (s:Int) k))/\b7 (Ext w wr)) (fun i _ _=>5-(intOf i).toNat)
 case atStart=>exact⟨0,_,_,_,KJ _,rfl,rfl,HO,ae (Ext.alloc _ _)⟩
 case round =>
  obtain⟨k,a1,G,c1,hk,rfl,rfl,zv,yZ⟩:=hrel;have hsz:=yZ.o.size;by_cases hlt:k<5
  ·have HB:=ae (el (s:Int) k e7 e7);cases hbit:bit (s:Int) k
   ·rw[hbit]at HB;have HS:=ae hbit;clear hbit;go_wp2_with (first|(go_at_call 133;refine(fP _ _ _ e7).mono ?_;rw[HB.o];rintro e w3 ⟨rfl,rfl⟩))
    go_roundw
    case rel=>exact⟨k+1,a1,G,c1,by omega,by go_num,rfl,ae (by rw[qE,HS.o];simpa using zv.o),yZ⟩
    case measure=>simp[intOf];omega
   ·rw[hbit]at HB;have HS:=ae hbit;clear hbit
    go_wp2_with (first
     | (go_at_call 133;refine(fP _ _ _ e7).mono ?_;rw[HB.o];rintro e w3 ⟨rfl,rfl⟩)
     | (at_builtin;refine bu rfl _ _ rfl w.heap.size (.slice a1 G c1) _ rfl (zv.o.ext (Ext.alloc _ _)) _ 1 _ [(k:Int)] rfl (Ints.one _ _ _) (j1 (sX (s:Int) k)) (by simp;omega) ?_;intro v2 w3 ho hg k9;obtain⟨a2,I,c2,rfl,Gu⟩:=ho.var;have O:=ae ho;have J:=ae hg;clear ho hg k9))
    go_roundw
    case rel =>
     refine⟨k+1,a2,I,c2,by omega,by go_num,rfl,ae ?_,ae ?_⟩
     ·rw[qE,HS.o];exact O.o
     ·exact ak (yZ.o.trans (Ext.alloc _ _)) J.o (fun j hj=>(zv.o.lt j hj).1)
    case measure=>simp[intOf];omega
  ·have K:k=5:=by omega
   subst K
   go_wp2
   go_ret;exact⟨_,rfl,zv.o,yZ.o⟩
end Go.Proofs.YtdadoignenffgaaGreatDoor
namespace Go.Proofs.YtdadoignenffgaaGreatDoor
open Go.RowKit
abbrev RR:Type:=j8
def IA(l:List RR):Nat->List RR
 | 0=>[]
 | k+1=>if 0<k/\l[k]?.getD (0,0)=l[k-1]?.getD (0,0) then IA l k else IA l k++[l[k]?.getD (0,0)]
theorem WN{l:List RR}{k:Nat}(h:0<k)(e:l[k]?.getD (0,0)=l[k-1]?.getD (0,0)):IA l (k+1)=IA l k:=by rw[IA,hI ⟨h,e⟩]
theorem WM{l:List RR}{k:Nat}(h:¬(0<k/\l[k]?.getD (0,0)=l[k-1]?.getD (0,0))):IA l (k+1)=IA l k++[l[k]?.getD (0,0)]:=by rw[IA,hD h]
structure Cmpd(l M:List RR)(i j:Nat):Prop where
 len:M.length=l.length
 lt:i<j
 pos:0<i
 jl:j<=l.length
 lo:M.take i=IA l j
 hi:∀k,i<=k->M[k]?.getD (0,0)=l[k]?.getD (0,0)
end Go.Proofs.YtdadoignenffgaaGreatDoor
namespace Go.Proofs.YtdadoignenffgaaGreatDoor
def rowZ(n:Nat)(z:Nat->Rat)(r:j7):Rat:=r8 (fun j=>((r[j]?.getD 0:Int):Rat)*z j) n
structure Steps(n:Nat)(z:Nat->Rat)(m c:Nat)(T:j5):Prop where
 len:T.length=m
 cm:c<=m
 wid:∀i,i<m->(T[i]?.getD []).length=n
 ann:∀i,i<m->rowZ n z (T[i]?.getD [])=0
 dia:∀i,i<c->(T[i]?.getD [])[i]?.getD 0≠0
 low:∀i j,i<m->j<i->j<c->(T[i]?.getD [])[j]?.getD 0=0
def Hf:Nat->Nat->Nat
 | 0,_=>1
 | n+1,B=>B*Hf n (2*B*B)
theorem Pn{B p a c r:Int}(h0:0<=B)(h1:-B<=p/\p<=B)(h2:-B<=a/\a<=B)(h3:-B<=c/\c<=B)(h4:-B<=r/\r<=B):-(2*B*B)<=p*a-c*r/\p*a-c*r<=2*B*B:=by
 have e:∀x y:Int,-B<=x/\x<=B->-B<=y/\y<=B->-(B*B)<=x*y/\x*y<=B*B:=fun x y hx hy=>by
  have a1:=aa2 (show 0<=B-x by omega) (show 0<=B+y by omega);have a2:=aa2 (show 0<=B+x by omega) (show 0<=B-y by omega);have a3:=aa2 (show 0<=B-x by omega) (show 0<=B-y by omega);have a4:=aa2 (show 0<=B+x by omega) (show 0<=B+y by omega);constructor<;>grind
 have:=e p a h1 h2;have:=e c r h3 h4
 grind
end Go.Proofs.YtdadoignenffgaaGreatDoor
namespace Go.Proofs.YtdadoignenffgaaGreatDoor
variable{A:j5}{B n base:Nat}{r:BQ}{R:(Nat->Int)->Prop}{C Wg:j4}{V:j7}{w w1:World}{v MK:Value}
theorem R6(b:Bool):0<=zA b/\zA b<=1:=by cases b<;>decide
theorem mulN{a b:Int}{A:Nat}(h:a.natAbs<=A)(k:b.natAbs<=B):(a*b).natAbs<=A*B:=by rw[aaO];exact Y4 h k
theorem Zt{x:j8}{M:Nat}{m:Int}(hv:o9 x=true)(hM:1<=M)(h:(M:Rat)*val x=(m:Rat)):Fr x m (M:Int):=by
 refine⟨hv,by omega,?_⟩;have hb:=aQ hv;have h2:((x.2:Int):Rat)≠0:=eM e7;unfold val at h;have e:((x.1:Int):Rat)*(M:Rat)=(m:Rat)*(x.2:Rat):=by grind
 have e2:(((x.1*(M:Int)):Int):Rat)=((m*x.2:Int):Rat):=by
  rw[aah,aah,<-e];have:(((M:Nat):Int):Rat)=(M:Rat):=by push_cast;rfl
  rw[this]
 exact_mod_cast e2
theorem Vl:∀n:Fin 5,Hf n.val 1<=2048:=by decide
open Go.RowKit
def lK(R:(Nat->Int)->Prop)(y:Nat->Rat)(n:Nat):Prop:=∀r,R r->∃m:Int,r8 (fun i=>((r i:Int):Rat)*y i) n=(m:Rat)
def KD(R:(Nat->Int)->Prop)(b:Nat->Int)(n:Nat):Prop:=∀z:Nat->Rat,(∀r,R r->r8 (fun i=>((r i:Int):Rat)*z i) n=0)->r8 (fun i=>((b i:Int):Rat)*z i) n=0
def Den(b:Nat->Int)(y:Nat->Rat)(n K:Nat):Prop:=∃M:Nat,1<=M/\M<=K/\∃m:Int,(M:Rat)*r8 (fun i=>((b i:Int):Rat)*y i) n=(m:Rat)
def rO(R:(Nat->Int)->Prop)(r:Nat->Int)(n:Nat)(s:Nat->Int):Prop:=∃q,R q/\∀i,s i=r n*q i-q n*r i
theorem ju{p c:Int}{q r s:Nat->Int}(hs:∀i,s i=p*q i-c*r i)(x:Nat->Rat):r8 (fun i=>((s i:Int):Rat)*x i) n=(p:Rat)*r8 (fun i=>((q i:Int):Rat)*x i) n+(-(c:Rat))*r8 (fun i=>((r i:Int):Rat)*x i) n:=by
 rw[<-fB,<-jk];refine bK fun i hi=>?_
 rw[hs i,Rat.intCast_sub,aah,aah]
 grind
theorem rR{K:Nat}{b r:Nat->Int}{y:Nat->Rat}(hr:R r)(U:r n≠0)(hy:lK R y (n+1))(hk:KD R b (n+1))
 (ih:lK (rO R r n) y n->KD (rO R r n) (fun i=>r n*b i-b n*r i) n->Den (fun i=>r n*b i-b n*r i) y n K):Den b y (n+1) ((r n).natAbs*K):=by
 obtain⟨p,hp⟩:=b9 (r n);obtain⟨O,G⟩:=hy r hr;simp only[r8]at G;rw[<-hp]at G U;have zR:(p:Rat)≠0:=eM U;unfold rO at ih;rw[<-hp]at ih⊢
 obtain⟨M,LG,Q,m,hm⟩:=ih (by
  rintro s ⟨q,hq,hs⟩;obtain⟨Z,I⟩:=hy q hq;simp only[r8]at I;refine⟨p*Z-q n*O,?_⟩;rw[ju hs y,Rat.intCast_sub,aah,aah,<-I,<-G]
  grind)
  (by
    intro z hz
    have El:=hk (fun i=>if i=n then-r8 (fun i=>((r i:Int):Rat)*z i) n/(p:Rat) else z i) (fun q hq=>by
     have h1:=hz (fun i=>p*q i-q n*r i) ⟨q,hq,fun _=>rfl⟩;rw[ju (fun _=>rfl) z]at h1;simp only[r8,abk];have e:r8 (fun k=>((q k:Int):Rat)*(if k=n then-r8 (fun i=>((r i:Int):Rat)*z i) n/(p:Rat) else z k)) n=r8 (fun i=>((q i:Int):Rat)*z i) n:=bK fun i hi=>by rw[hD e7]
     rw[e];generalize r8 (fun i=>((q i:Int):Rat)*z i) n=sq at h1⊢;generalize r8 (fun i=>((r i:Int):Rat)*z i) n=sr at h1⊢
     grind)
    rw[ju (fun _=>rfl) z];simp only[r8,abk]at El;have e:r8 (fun k=>((b k:Int):Rat)*(if k=n then-r8 (fun i=>((r i:Int):Rat)*z i) n/(p:Rat) else z k)) n=r8 (fun i=>((b i:Int):Rat)*z i) n:=bK fun i hi=>by rw[hD e7]
    rw[e]at El;generalize r8 (fun i=>((b i:Int):Rat)*z i) n=sb at El⊢;generalize r8 (fun i=>((r i:Int):Rat)*z i) n=sr at El⊢
    grind)
 rw[ju (fun _=>rfl) y]at hm;refine⟨p.natAbs*M,?_,Y4 (ao _) Q,?_⟩
 ·have:1<=p.natAbs:=by omega
  exact Y4 this LG
 ·have J:((p.natAbs:Int):Rat)=(p:Rat)∨((p.natAbs:Int):Rat)=-(p:Rat):=by
   rcases Int.natAbs_eq p with h|h
   ·left;rw[<-h]
   ·right;rw[<-Rat.intCast_neg];congr 1;omega
  have Y8:((p.natAbs*M:Nat):Rat)=((p.natAbs:Int):Rat)*(M:Rat):=by push_cast;rfl
  have hMc:(((M:Nat):Int):Rat)=(M:Rat):=by push_cast;rfl
  have key:(p:Rat)*(M:Rat)*(r8 (fun i=>((b i:Int):Rat)*y i) n+(b n:Rat)*y n)=((m+(M:Int)*(b n*O):Int):Rat):=by
   rw[Rat.intCast_add,aah,aah,hMc,<-hm,<-G];generalize r8 (fun i=>((b i:Int):Rat)*y i) n=sb;generalize r8 (fun i=>((r i:Int):Rat)*y i) n=sr
   grind
  rw[Y8];simp only[r8]
  rcases J with h|h
  ·exact⟨m+(M:Int)*(b n*O),by rw[h];exact key⟩
  ·refine⟨-(m+(M:Int)*(b n*O)),?_⟩;rw[h,Rat.intCast_neg,<-key]
   grind
theorem qk:∀{n B C:Nat},B<=C->Hf n B<=Hf n C
 | 0,_,_,_=>ao _
 | n+1,B,C,h=>Y4 h (qk (Y4 (Y4 (ao 2) h) h))
theorem RZ(h:1<=B):Hf n B<=Hf (n+1) B:=by
 have h1:B<=2*B*B:=by
  have:=Y4 (ao B) (show 1<=2*B by omega);rw[aeO]at this;rw[acw (2*B) B];exact this
 have h2:Hf n B<=Hf n (2*B*B):=qk h1;have h3:=Y4 h h2;rw[Nat.one_mul]at h3;exact h3
theorem rQ{K:Nat}{b:Nat->Int}{y:Nat->Rat}(h0:∀r,R r->r n=0)(hy:lK R y (n+1))(hk:KD R b (n+1))(ih:lK R y n->KD R b n->Den b y n K):Den b y (n+1) K:=by
 have e0:((0:Int):Rat)=0:=rfl;have hb:((b n:Int):Rat)=0:=by
  have:=hk (fun i=>if i=n then 1 else 0) (fun r hr=>eR fun i hi=>by
   by_cases e:i=n
   ·subst e;rw[h0 r hr,e0];grind
   ·rw[hD e];grind)
  simp only[r8,abk]at this;rw[eR (fun i hi=>by rw[hD e7];grind)]at this
  grind
 obtain⟨M,h1,h2,m,hm⟩:=ih (fun r hr=>by
  obtain⟨m,hm⟩:=hy r hr;simp only[r8]at hm;rw[h0 r hr,e0]at hm
  exact⟨m,by rw[<-hm];grind⟩)
  (fun z hz=>by
    have:=hk (fun i=>if i=n then 0 else z i) (fun r hr=>by
     simp only[r8,abk];rw[bK (g:=fun i=>((r i:Int):Rat)*z i) (fun i hi=>by rw[hD e7]),hz r hr]
     grind)
    simp only[r8,abk]at this;rw[bK (g:=fun i=>((b i:Int):Rat)*z i) (fun i hi=>by rw[hD e7])]at this
    grind)
 refine⟨M,h1,h2,m,?_⟩;simp only[r8];rw[hb,<-hm]
 grind
theorem kd:∀(n B:Nat) (R:(Nat->Int)->Prop) (b:Nat->Int) (y:Nat->Rat),1<=B->(∀r,R r->∀i,i<n->-(B:Int)<=r i/\r i<=B)->lK R y n->KD R b n->Den b y n (Hf n B)
 | 0,B,R,b,y,_,_,_,_=>⟨1,ao _,ao _,0,by simp only[r8];have e0:((0:Int):Rat)=0:=rfl;rw[e0];grind⟩
 | n+1,B,R,b,y,h1,hB,hy,hk=>by
   by_cases hno:∀r,R r->r n=0
   ·obtain⟨M,m1,m2,m3⟩:=rQ hno hy hk (kd n B R b y h1 (fun r hr i hi=>hB r hr i e7));exact⟨M,m1,SC m2 (RZ h1),m3⟩
   ·obtain⟨r,hr,G⟩:∃r,R r/\r n≠0:=by
     refine aaU fun hh=>hno fun r hr=>aaU fun h=>hh ⟨r,hr,h⟩
    have hpB:=hB r hr n e7
    obtain⟨M,m1,m2,m3⟩:=rR hr G hy hk (kd n (2*B*B) _ _ y (Y4 (Y4 (show 1<=2 by omega) h1) h1) (by
     rintro s ⟨q,hq,hs⟩ i hi;rw[hs i];have:=Pn (B:=(B:Int)) e7 hpB (hB q hq i e7) (hB q hq n e7) (hB r hr i e7);have e:((2*B*B:Nat):Int)=2*(B:Int)*B:=by push_cast;rfl
     rw[e];exact this))
    exact⟨M,m1,SC m2 (Y4 e7 (ao _)),m3⟩
theorem R0{p a c r:Int}(hp:p=1)(h2:0<=a/\a<=1)(h3:0<=c/\c<=1)(h4:0<=r/\r<=1):-1<=p*a-c*r/\p*a-c*r<=1:=by
 subst hp
 rcases(by omega:c=0∨c=1)with rfl|rfl<;>omega
theorem vS(n:Nat)(R:(Nat->Int)->Prop)(b:Nat->Int)(y:Nat->Rat)(G:∀r,R r->∀i,i<n+1->0<=r i/\r i<=1)(hy:lK R y (n+1))(hk:KD R b (n+1)):Den b y (n+1) (Hf n 1):=by
 by_cases hno:∀r,R r->r n=0
 ·exact rQ hno hy hk (kd n 1 R b y (ao _) (fun r hr i hi=>by have:=G r hr i e7;omega))
 ·obtain⟨r,hr,I⟩:∃r,R r/\r n≠0:=by
   refine aaU fun hh=>hno fun r hr=>aaU fun h=>hh ⟨r,hr,h⟩
  have hp:=G r hr n e7;have G9:r n=1:=by omega
  obtain⟨M,m1,m2,m3⟩:=rR hr I hy hk (kd n 1 _ _ y (ao _) (by
   rintro s ⟨q,hq,hs⟩ i hi;rw[hs i]
   exact R0 G9 (G q hq i e7) (G q hq n e7) (G r hr i e7)))
  refine⟨M,m1,?_,m3⟩;rw[G9]at m2
  simpa using m2
theorem ru:∀{m:Nat} {f:Nat->Rat},(∀k,k<m->0<=f k)->r8 f m<=0->∀k,k<m->f k=0
 | 0,_,_,_,k,hk=>absurd hk e7
 | m+1,f,h,hs,k,hk=>by
   have h1:=pZ (m:=m) (fun k hk=>h k e7);have h2:=h m e7;simp only[r8]at hs
   rcases ab5 k m with G|G
   ·exact ru (fun k hk=>h k e7) (by grind) k G
   ·obtain rfl:k=m:=by omega
    grind
theorem vN{B:j7}(h:Cert A B C r){j:Nat}(hj:j<C.length)(hx:yY r.X j≠0):r8 (fun i=>yY r.Y i*(Fy A i j:Rat)) A.length=yY C j:=by
 have e1:r8 (fun i=>yY r.Y i*((B[i]?.getD 0:Int):Rat)) A.length=r8 (fun j=>r8 (fun i=>yY r.Y i*((Fy A i j:Rat)*yY r.X j)) A.length) C.length:=by
  rw[jD (fun i j=>yY r.Y i*((Fy A i j:Rat)*yY r.X j))];exact bK fun i hi=>by rw[fB,h.row i hi]
 have e2:r8 (fun j=>yY r.X j*(yY C j-r8 (fun i=>yY r.Y i*(Fy A i j:Rat)) A.length)) C.length=0:=by
  have e3:r8 (fun j=>yY r.X j*(yY C j-r8 (fun i=>yY r.Y i*(Fy A i j:Rat)) A.length)) C.length=r8 (fun j=>yY C j*yY r.X j+(-1)*r8 (fun i=>yY r.Y i*((Fy A i j:Rat)*yY r.X j)) A.length) C.length:=bK fun j hj=>by
   have:r8 (fun i=>yY r.Y i*((Fy A i j:Rat)*yY r.X j)) A.length=yY r.X j*r8 (fun i=>yY r.Y i*(Fy A i j:Rat)) A.length:=by
    rw[<-fB];exact bK fun i hi=>by grind
   rw[this];grind
  rw[e3,jk,<-h.cx,<-e1,<-h.yb]
  grind
 have:=ru (fun j hj=>by
  have h1:=h.x0 j hj;have h2:=h.zp j hj
  exact Rat.mul_nonneg h1 (by grind)) (show r8 (fun j=>yY r.X j*(yY C j-r8 (fun i=>yY r.Y i*(Fy A i j:Rat)) A.length)) C.length<=(0:Rat)by rw[e2];exact aeN) j hj
 have h0:yY r.X j*(yY C j-r8 (fun i=>yY r.Y i*(Fy A i j:Rat)) A.length)=0:=this
 rcases Rat.mul_eq_zero.1 h0 with h3|h3
 ·exact absurd h3 hx
 ·grind
theorem xr{B:j7}(h:Cert A B C r)(G:∀j,j<C.length->yY r.X j≠0->R (fun i=>Fy A i j)):KD R (fun i=>B[i]?.getD 0) A.length:=by
 intro z hz;have e1:r8 (fun i=>((B[i]?.getD 0:Int):Rat)*z i) A.length=r8 (fun j=>r8 (fun i=>z i*((Fy A i j:Rat)*yY r.X j)) A.length) C.length:=by
  rw[jD (fun i j=>z i*((Fy A i j:Rat)*yY r.X j))];exact bK fun i hi=>by rw[fB,h.row i hi];grind
 rw[e1];refine eR fun j hj=>?_
 have e:r8 (fun i=>z i*((Fy A i j:Rat)*yY r.X j)) A.length=yY r.X j*r8 (fun i=>((Fy A i j:Int):Rat)*z i) A.length:=by
  rw[<-fB];exact bK fun i hi=>by grind
 rw[e];by_cases hx:yY r.X j=0
 ·rw[hx];grind
 ·rw[hz _ (G j hj hx)];grind
theorem MW:∀n:Fin 6,∀s:Fin 32,s.val+1<cN n.val->∃i:Fin 5,i.val<n.val/\bit ((1+s.val:Nat):Int) i.val=true:=by decide +kernel
theorem ua{f:Nat->Rat}{k:Nat}:∀{m:Nat},k<m->(∀i,i<m->0<=f i)->f k<=r8 f m
 | 0,h,_=>absurd h e7
 | m+1,h,hf=>by
   simp only[r8]
   rcases ab5 k m with G|G
   ·have:=ua G (fun i hi=>hf i e7);have:=hf m e7
    grind
   ·obtain rfl:k=m:=by omega
    have:=pZ (m:=k) (fun i hi=>hf i e7)
    grind
theorem po(c:Rat):∀m:Nat,r8 (fun _=>c) m=(m:Rat)*c
 | 0=>by simp only[r8];have:((0:Nat):Rat)=0:=rfl;rw[this];grind
 | m+1=>by
   simp only[r8];rw[po c m];have:((m+1:Nat):Rat)=(m:Rat)+1:=by push_cast;rfl
   rw[this];grind
theorem Pp(B1:1<=n)(hn:n<=5)(O:V.length=cN n)(hb:∀x∈V,-500<=x/\x<=500)(hc:Cert (cV n (cN n)) (dk n) (bG V) r):
 ∃(M:Nat) (m:Int),1<=M/\M<=2048/\(M:Rat)*val r.value=(m:Rat)/\m.natAbs<=2500*M:=by
 have It:=bP n hn;have I:(cV n (cN n)).length=n:=by unfold cV A9;simp
 have hCl:(bG V).length=cN n-1:=by unfold bG;rw[zo,aaj,O]
 have hcv:∀j,j<cN n-1->yY (bG V) j=((- (V[1+j]?.getD 0):Int):Rat):=fun j hj=>by
  have hl:1+j<V.length:=by omega
  have e:(bG V)[j]?.getD (0,0)=(-(V[1+j]?.getD 0),1):=by
   unfold bG;rw[MD,aaS,bk hl]
   rfl
  unfold yY;rw[e,eG]
 obtain⟨G,rfl⟩:∃G,n=G+1:=⟨n-1,by omega⟩;obtain⟨M,m1,m2,m,hm⟩:=vS G (fun f=>∃j,j<cN (G+1)-1/\yY r.X j≠0/\f=fun i=>Fy (cV (G+1) (cN (G+1))) i j) (fun i=>(dk (G+1))[i]?.getD 0) (fun i=>yY r.Y i)
  (by
    rintro f ⟨j,hj,_,rfl⟩ i hi;simp only;rw[mU hi e7 hj]
    exact R6 _)
  (by
    rintro f ⟨j,hj,hx,rfl⟩;have:=vN hc (j:=j) e7 hx;rw[I,hcv j hj]at this
    exact⟨_,by rw[<-this];exact bK fun i hi=>by grind⟩)
  (by
    have:=xr hc (R:=fun f=>∃j,j<cN (G+1)-1/\yY r.X j≠0/\f=fun i=>Fy (cV (G+1) (cN (G+1))) i j) (fun j hj hx=>⟨j,by omega,hx,rfl⟩);rw[I]at this
    exact this)
 have GU:=hc.yb;rw[I]at GU;have e:r8 (fun i=>(((dk (G+1))[i]?.getD 0:Int):Rat)*yY r.Y i) (G+1)=val r.value:=by rw[GU];exact bK fun i hi=>by grind
 rw[e]at hm;have hd:=Vl ⟨G,by omega⟩;simp only at hd;refine⟨M,m,m1,by omega,hm,?_⟩;have hx:r8 (fun j=>yY r.X j) (cN (G+1)-1)<=((G+1:Nat):Rat):=by
  have e1:r8 (fun j=>r8 (fun i=>(Fy (cV (G+1) (cN (G+1))) i j:Rat)*yY r.X j) (G+1)) (cN (G+1)-1)=((G+1:Nat):Rat):=by
   rw[jD (fun i j=>(Fy (cV (G+1) (cN (G+1))) i j:Rat)*yY r.X j),bK (g:=fun _=>(1:Rat)) (fun i hi=>by
    have:=hc.row i e7;rw[hCl]at this;rw[this];unfold dk;rw[aaI,hI hi]
    rfl),po]
   grind
  rw[<-e1];refine lW fun j hj=>?_
  obtain⟨i,hi1,Q⟩:=MW ⟨G+1,by omega⟩ ⟨j,by omega⟩ (by simp only;omega);have y9:=hc.x0 j e7;have U:∀k,k<G+1->0<=(Fy (cV (G+1) (cN (G+1))) k j:Rat)*yY r.X j:=fun k hk=>by
   rw[mU hk e7 hj,rJ]
   split<;>grind
  have:=ua (k:=i.val) hi1 U;rw[mU hi1 e7 hj,rJ,hI Q]at this
  grind
 have Gc:=hc.cx;rw[hCl]at Gc;have J:val r.value<=2500:=by
  rw[Gc];have:r8 (fun j=>yY (bG V) j*yY r.X j) (cN (G+1)-1)<=r8 (fun j=>(500:Rat)*yY r.X j) (cN (G+1)-1):=lW fun j hj=>by
   have y9:=hc.x0 j e7;rw[hcv j hj];have hv:=iU hb (1+j);have:((-(V[1+j]?.getD 0):Int):Rat)<=((500:Int):Rat):=abA.2 (show -(V[1+j]?.getD 0)<=500 by omega);have e5:((500:Int):Rat)=500:=rfl;rw[e5]at this;have:=aa0 this y9
   grind
  rw[fB]at this;have C6:((G+1:Nat):Rat)<=((5:Nat):Rat):=by exact_mod_cast hn
  have e5:((5:Nat):Rat)=5:=rfl
  grind
 have hlo:-2500<=val r.value:=by
  rw[Gc];have:r8 (fun j=>(-500:Rat)*yY r.X j) (cN (G+1)-1)<=r8 (fun j=>yY (bG V) j*yY r.X j) (cN (G+1)-1):=lW fun j hj=>by
   have y9:=hc.x0 j e7;rw[hcv j hj];have hv:=iU hb (1+j);have:((-500:Int):Rat)<=((-(V[1+j]?.getD 0):Int):Rat):=abA.2 (show(-500:Int)<=-(V[1+j]?.getD 0)by omega);have e5:((-500:Int):Rat)=-500:=rfl;rw[e5]at this;have:=aa0 this y9
   grind
  rw[fB]at this;have C6:((G+1:Nat):Rat)<=((5:Nat):Rat):=by exact_mod_cast hn
  have e5:((5:Nat):Rat)=5:=rfl
  grind
 have hM0:(0:Rat)<=(M:Rat):=by exact_mod_cast KJ M
 have hMc:(((M:Nat):Int):Rat)=(M:Rat):=by push_cast;rfl
 have u1:=aa0 J hM0;have K:=aa0 hlo hM0;rw[hm]at u1 K;have v1:((m:Int):Rat)<=((2500*(M:Int):Int):Rat):=by rw[aah,hMc];have e5:((2500:Int):Rat)=2500:=rfl;rw[e5];grind
 have v2:((-2500*(M:Int):Int):Rat)<=((m:Int):Rat):=by rw[aah,hMc];have e5:((-2500:Int):Rat)=-2500:=rfl;rw[e5];grind
 have v1:m<=2500*(M:Int):=abA.1 v1;have v2:-2500*(M:Int)<=m:=abA.1 v2;omega
theorem Ps{g:Int}(hs:r.status=1):em true g r=if 0<zV (ze r.value) (g,1) then 2 else if((dX g r).2&&(iB g r).2)=true then 1 else 3:=by
 unfold em;rw[hD e8,hD (fun h=>h hs)]
theorem Pr{g:Int}(hs:r.status=1):eL true g r=if(dX g r).2=false then 3 else if(dX g r).1.1<0 then 2 else if(iB g r).2=true then 1 else 3:=by
 unfold eL;rw[hD e8,hD (fun h=>h hs)]
theorem Pq{p:Int}:em (aL p V) (bY p V) (bD ar (cV p.toNat V.length) (dk p.toNat) (bG V))=eL (aL p V) (bY p V) (bD ar (cV p.toNat V.length) (dk p.toNat) (bG V)):=by
 cases hg:aL p V with
 | false=>rfl
 | true =>
   obtain⟨n,rfl,h1,h5,hl,_,hb⟩:=bQ hg;obtain⟨r,hr⟩:=b9 (bD ar (cV (n:Int).toNat V.length) (dk (n:Int).toNat) (bG V));rw[<-hr];by_cases hs:r.status=1
   ·rw[Ps hs,Pr hs];have J:(bD ar (cV n (cN n)) (dk n) (bG V)).status=1:=by rw[<-hl];rw[hr]at hs;exact hs
    obtain⟨s1,_,O,_,I,_⟩:=gM J;have G:=R1 s1 O J;have Q:r=bD ar (cV n (cN n)) (dk n) (bG V):=by rw[hr,hl];rfl
    rw[<-Q]at G I;obtain⟨M,m,m1,m2,hm,YG⟩:=Pp h1 h5 hl hb G;have K:=Zt I m1 hm;have B2:-500<=bY (n:Int) V/\bY (n:Int) V<=500:=by rw[ig hg];exact iU hb _
    have z1:=K.size;have b1:=aQ I;have n1:=mulN (A:=500) (B:=2048) (a:=bY (n:Int) V) (b:=(M:Int)) e7 e7;have n2:=mulN (A:=500) (B:=2048) (a:=bY (n:Int) V) (b:=r.value.2) e7 e7;obtain⟨c,c1,c2⟩:=(Fr.int (bY (n:Int) V) e7 e7).add K (z:=bY (n:Int) V*(M:Int)+m) (F:=(M:Int)) e7 e7 e7 (by simp only;omega) (by grind);have JZ:(dX (bY (n:Int) V) r).2=true:=by unfold dX;rw[c1]
    have Wm:=wY JZ;rw[JZ];by_cases h6:(dX (bY (n:Int) V) r).1.1<0
    ·rw[hI (Wm.2 h6),hD (show¬true=false by simp),hI h6]
    ·rw[hD (fun h=>h6 (Wm.1 h)),hD (show¬true=false by simp),hD h6,aad]
   ·unfold em eL;rw[hD (show¬true=false by simp),hD (show¬true=false by simp),hI hs,hI hs]
set_option maxRecDepth 100000
def gq(w:World)(base:Nat)(e:Ending)(r:DV):Prop :=
 ∃pa pn pc sa sn sc,e=.returned (.agg #[.bool r.ok,.slice pa pn pc,.slice sa sn sc,.int .i64 r.rounds])/\o0 w base (.slice pa pn pc) r.pt/\zd BM 83 w base (.slice sa sn sc) r.st
theorem gq.no(w:World)(base:Nat):gq w base (.returned (.agg #[.bool false,.slice none 0 0,.slice none 0 0,.int .i64 0])) DV.no :=
 ⟨Option.none,0,0,Option.none,0,0,rfl,o0.nil _ _,zd.nil _ _ _ _⟩
theorem BZ{g:Nat}{a b c d:Value}{t:TypeId}(hb:w.heap[g]?=some (.cells #[a,b,c,d] t (0,0))):
 w.cell? ⟨g,0,none⟩=some a/\w.cell? ⟨g,1,none⟩=some b/\w.cell? ⟨g,2,none⟩=some c/\w.cell? ⟨g,3,none⟩=some d/\∀k,w.frozen? ⟨g,k,none⟩=false:=by
 refine⟨?_,?_,?_,?_,fun k=>sd w g k _ _ hb⟩<;>rw[tn w g _ _ _ _ hb]<;>rfl
theorem Q4{W:World}{r:Nat}{x0 x1 x2 G:Value}{t:TypeId}(hb:W.heap[r]?=some (.cells #[x0,x1,x2,G] t (0,0)))(v0 v1 v2 v3:Value):
 ((((W.setCell ⟨r,0,none⟩ v0).setCell ⟨r,1,none⟩ v1).setCell ⟨r,2,none⟩ v2).setCell ⟨r,3,none⟩ v3).heap[r]?=some (.cells #[v0,v1,v2,v3] t (0,0)) /\
   ∀b,b≠r->((((W.setCell ⟨r,0,none⟩ v0).setCell ⟨r,1,none⟩ v1).setCell ⟨r,2,none⟩ v2).setCell ⟨r,3,none⟩ v3).heap[b]?=W.heap[b]?:=by
 have h1:=ta W r 0 _ t v0 hb;have h2:=ta _ r 1 _ t v1 h1;have h3:=ta _ r 2 _ t v2 h2;have h4:=ta _ r 3 _ t v3 h3;exact⟨h4,fun b AD=>(bB _ _ _ _ AD).trans ((bB _ _ _ _ AD).trans ((bB _ _ _ _ AD).trans (bB _ _ _ _ AD)))⟩
theorem SK{W:World}{r:Nat}(hX:Ext w W)(hr:w.heap.size<=r)(v0 v1 v2 v3:Value):Ext w ((((W.setCell ⟨r,0,none⟩ v0).setCell ⟨r,1,none⟩ v1).setCell ⟨r,2,none⟩ v2).setCell ⟨r,3,none⟩ v3) :=
 (((hX.store 0 hr v0).store 1 hr v1).store 2 hr v2).store 3 hr v3
structure Aq(W wr:World)(B:Nat)(vp vs vf:Value)(pt:j4)(L:j2)(fx:j7)(k:Nat):Prop where
 box:wr.heap[B]?=some (.cells #[.bool true,vp,vs,.int .i64 (k:Int)] 44 (0,0))
 pt:o0 wr (B+1) vp pt
 st:zd BM 83 wr (B+1) vs L
 fx:o4 wr (B+1) vf fx
 ext:Ext W wr
 lo:W.heap.size<=B
section
variable{W wr w':World}{B:Nat}{vp vs vf:Value}{pt:j4}{L:j2}{fx:j7}{k:Nat}
theorem Aq.grow(h:Aq W wr B vp vs vf pt L fx k)(hx:Ext wr w'):Aq W w' B vp vs vf pt L fx k:=⟨hx.blk h.box,h.pt.ext hx,h.st.ext hx,h.fx.ext hx,h.ext.trans hx,h.lo⟩
theorem Aq.lt(h:Aq W wr B vp vs vf pt L fx k):B<wr.heap.size:=mr h.box
theorem Aq.off{v:Value}(h:∀k,v.ownBlock=some k->B+1<=k/\k<wr.heap.size)(j:Nat)(u:Value):∀k,v.ownBlock=some k->(wr.setCell ⟨B,j,none⟩ u).heap[k]?=wr.heap[k]?:=fun k hk=>bB _ _ _ _ (by have:=(h k hk).1;show k≠B;omega)
theorem Aq.TS(h:Aq W wr B vp vs vf pt L fx k){MK:Value}{Wg:j4}(hp:o0 wr (B+1) MK Wg):Aq W (wr.setCell ⟨B,1,none⟩ MK) B MK vs vf Wg L fx k :=
 ⟨ta wr B 1 _ _ _ h.box,hp.keep (Aq.off hp.lt 1 _),h.st.keep (Aq.off h.st.lt 1 _),h.fx.keep (Aq.off h.fx.lt 1 _),h.ext.store 1 h.lo _,h.lo⟩
theorem Aq.Xq(h:Aq W wr B vp vs vf pt L fx k){k':Nat}{i:Int}(hi:i=(k':Int)):Aq W (wr.setCell ⟨B,3,none⟩ (.int .i64 i)) B vp vs vf pt L fx k':=by
 subst hi;exact⟨ta wr B 3 _ _ _ h.box,h.pt.keep (Aq.off h.pt.lt 3 _),h.st.keep (Aq.off h.st.lt 3 _),h.fx.keep (Aq.off h.fx.lt 3 _),h.ext.store 3 h.lo _,h.lo⟩
theorem Aq.Tj(h:Aq W wr B vp vs vf pt L fx k){w1:World}(hx:Ext wr w1){G:Value}{I:j2}(hg:w1.grownBy w' vs.ownBlock)(ho:zd BM 83 w' (B+1) G I):Aq W (w'.setCell ⟨B,2,none⟩ G) B vp G vf pt I fx k:=by
 have hb:=(hg.block B (mr (hx.blk h.box)) (fun e=>by have:=(h.st.lt B e.symm).1;omega)).trans (hx.blk h.box);have h1:o0 w' (B+1) vp pt:=ce (h.pt.ext hx) (h.st.ext hx) (by decide) hg;have h2:o4 w' (B+1) vf fx:=ce (h.fx.ext hx) (h.st.ext hx) (by decide) hg;exact⟨ta w' B 2 _ _ _ hb,h1.keep (Aq.off h1.lt 2 _),ho.keep (Aq.off ho.lt 2 _),h2.keep (Aq.off h2.lt 2 _),((h.ext.trans hx).grown hg (fun j hj=>by have:=(h.st.lt j hj).1;have:=h.lo;omega)).store 2 h.lo _,h.lo⟩
theorem Aq.Zp(h:Aq W wr B vp vs vf pt L fx k){w1:World}(hx:Ext wr w1){MK:Value}{Wg:j4}(hg:w1.grownBy w' vp.ownBlock)(ho:o0 w' (B+1) MK Wg):Aq W (w'.setCell ⟨B,1,none⟩ MK) B MK vs vf Wg L fx k:=by
 have hb:=(hg.block B (mr (hx.blk h.box)) (fun e=>by have:=(h.pt.lt B e.symm).1;omega)).trans (hx.blk h.box);have h1:zd BM 83 w' (B+1) vs L:=ce (h.st.ext hx) (h.pt.ext hx) (by decide) hg;have h2:o4 w' (B+1) vf fx:=ce (h.fx.ext hx) (h.pt.ext hx) (by decide) hg;exact⟨ta w' B 1 _ _ _ hb,ho.keep (Aq.off ho.lt 1 _),h1.keep (Aq.off h1.lt 1 _),h2.keep (Aq.off h2.lt 1 _),((h.ext.trans hx).grown hg (fun j hj=>by have:=(h.pt.lt j hj).1;have:=h.lo;omega)).store 1 h.lo _,h.lo⟩
theorem Aq.Zq(h:Aq W wr B vp vs vf pt L fx k){w1:World}(hx:Ext wr w1){G:Value}{I:j7}(hg:w1.grownBy w' vf.ownBlock)(ho:o4 w' (B+1) G I):Aq W w' B vp vs G pt L I k:=by
 have hb:=(hg.block B (mr (hx.blk h.box)) (fun e=>by have:=(h.fx.lt B e.symm).1;omega)).trans (hx.blk h.box);have h1:o0 w' (B+1) vp pt:=ce (h.pt.ext hx) (h.fx.ext hx) (by decide) hg;have h2:zd BM 83 w' (B+1) vs L:=ce (h.st.ext hx) (h.fx.ext hx) (by decide) hg;exact⟨hb,h1,h2,ho,(h.ext.trans hx).grown hg (fun j hj=>by have:=(h.fx.lt j hj).1;have:=h.lo;omega),h.lo⟩
end
structure BD(lo:Nat)(w w':World):Prop where
 size:w.heap.size<=w'.heap.size
 block:∀k,lo<=k->k<w.heap.size->w'.heap[k]?=w.heap[k]?
def Off(lo hi:Nat)(v:Value):Prop:=∀k,v.ownBlock=some k->k<lo∨hi<=k
theorem Off.of{lo hi:Nat}(h:∀k,v.ownBlock=some k->base<=k/\k<w.heap.size)(hl:w.heap.size<=lo):Off lo hi v:=fun k hk=>aaJ (j1 ((h k hk).2))
theorem Off.nil(lo hi n c:Nat):Off lo hi (.slice none n c):=fun k hk=>by cases hk
theorem Off.near{lo hi:Nat}{G:Value}(h:Off lo hi v)(hn:Cx w v G)(hs:hi<=w.heap.size):Off lo hi G:=fun k hk=>by
 rcases hn k hk with h1|h1
 ·exact h k h1
 ·exact ach e7
section
variable{lo:Nat}{w w1 w2:World}
theorem BD.refl(lo:Nat)(w:World):BD lo w w:=⟨ao _,fun _ _ _=>rfl⟩
theorem BD.ext(h:BD lo w w1)(hx:Ext w1 w2):BD lo w w2:=⟨SC h.size hx.size,fun k h1 h2=>(hx.block k (aa5 h2 h.size)).trans (h.block k h1 h2)⟩
theorem BD.grown(h:BD lo w w1){v:Value}(hg:w1.grownBy w2 v.ownBlock)(ho:Off lo w.heap.size v):BD lo w w2:=⟨SC h.size hg.size,fun k h1 h2=>(hg.block k (aa5 h2 h.size) (fun e=>by have:=ho k e.symm;omega)).trans (h.block k h1 h2)⟩
theorem BD.set(h:BD lo w w1){B j:Nat}(hB:B<lo)(v:Value):BD lo w (w1.setCell ⟨B,j,none⟩ v):=⟨by rw[World.size_setCell];exact h.size,fun k h1 h2=>(bB _ _ _ _ (by show k≠B;omega)).trans (h.block k h1 h2)⟩
theorem BD.on(h:BD lo w w1){P:World->Prop}(ho:On lo w P):On lo w1 P:=ho.keep h.size h.block
theorem BD.blk(h:BD lo w w1){g:Nat}{o:Obj}(hg:lo<=g)(hb:w.heap[g]?=some o):w1.heap[g]?=some o:=(h.block g hg (mr hb)).trans hb
theorem BD.ints(h:BD lo w w1){base:Nat}{v:Value}{l:j7}(hb:lo<=base)(ho:o4 w base v l):o4 w1 base v l:=ho.keep fun k hk=>h.block k (j1 ((ho.lt k hk).1)) (ho.lt k hk).2
end
theorem nY.lpc{e:Ending}{B:j7}{ok:Bool}(h:nY w base e A B C ok):
 ∃a G ca b nb cb c nc cc,e=.returned (.tuple #[DD a G ca b nb cb c nc cc,.bool ok])/\EA w a G ca b nb cb c nc cc A B C:=by
 obtain⟨va,vb,vc,vs,rfl,h1,h2,h3,h4,h5⟩:=h;obtain⟨a,G,ca,rfl,_⟩:=h1.var;obtain⟨b,nb,cb,rfl,_⟩:=h3.var;obtain⟨c,nc,cc,rfl,_⟩:=h4.var;exact⟨_,_,_,_,_,_,_,_,_,rfl,(show dt w base (.slice a G ca) A from⟨vs,h1,h2⟩).Hs,h3.ints,h4.zj⟩
theorem zd.JI{a:j6}{cap:Nat}{L:j2}(h:zd BM 83 w base (.slice a n cap) L):Bq w a n cap L:=h.Ej.JI
theorem uW(x:Int)(P:j2)(t:Int×Int×Int):(x::P.map fun f=>f.1)++[t.1]=x::(P++[t]).map fun f=>f.1:=by simp
theorem O8{V:j7}{L:j2}{s:Int}(hs:s<=1000)(h:∀f∈L,f.1<=1000):∀k:Nat,(s::L.map (·.1))[k]?.getD 0<=9223372036854775807:=by
 intro k;by_cases hk:k<(s::L.map (·.1)).length
 ·rw[bk hk,l'];have hm:=vl hk
  rcases aaL.1 hm with e|e
  ·rw[e];omega
  ·obtain⟨f,hf,he⟩:=aai.1 e;rw[<-he];have:=h f hf;omega
 ·rw[G4 e7];decide
