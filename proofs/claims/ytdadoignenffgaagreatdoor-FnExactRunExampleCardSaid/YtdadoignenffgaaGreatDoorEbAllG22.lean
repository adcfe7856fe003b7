import Derived.Test.YtdadoignenffgaaGreatDoorEbAllG13
import Derived.Test.YtdadoignenffgaaGreatDoorEbAllG52
import Derived.Test.YtdadoignenffgaaGreatDoorEbAllG1
import Derived.Test.YtdadoignenffgaaGreatDoorEbAllG3
import Derived.Deep.DeepCutAuto
set_option linter.unusedVariables false
set_option linter.unusedSimpArgs false
namespace Go.Proofs.YtdadoignenffgaaGreatDoor
variable{n k:Nat}{w:World}{a:j6}{l:j2}{s:Int}
set_option maxHeartbeats 16000000
open Go.RowKit
theorem mU{N i j:Nat}(hi:i<n)(hi5:i<5)(hj:j<N-1):Fy (cV n N) i j=zA (bit ((1+j:Nat):Int) i):=by
 unfold Fy cV A9;rw[MD,aak hi,Tc,l'];unfold AQ BY;rw[MD,MD,aak hj];simp only[Tc,l'];rw[el _ _ e7 e7]
 norm_cast
theorem rJ(b:Bool):((zA b:Int):Rat)=if b=true then 1 else 0:=by cases b<;>rfl
theorem fB(c:Rat)(f:Nat->Rat):∀m,r8 (fun k=>c*f k) m=c*r8 f m
 | 0=>by simp only[r8];grind
 | m+1=>by simp only[r8];rw[fB c f m];grind
theorem jD(f:Nat->Nat->Rat)(m:Nat):∀n,r8 (fun j=>r8 (fun i=>f i j) m) n=r8 (fun i=>r8 (fun j=>f i j) n) m
 | 0=>by
   simp only[r8];exact(eR fun _ _=>rfl).symm
 | n+1=>by
   simp only[r8];rw[jD f m n];have:=jk (fun i=>r8 (fun j=>f i j) n) (fun i=>f i n) 1 m;simp only[Rat.one_mul]at this;rw[this]
structure Bq(w:World)(a:j6)(n cap:Nat)(l:j2):Prop where
 hlen:l.length=n
 l8:n<=cap
 l9:cap<=9223372036854775807
 cell:∀k,k<n->∃b off,a=some ⟨b,off,none⟩/\∀k,k<n->w.cell? ⟨b,off+k*3,none⟩=some (.int .i64 (l[k]?.getD (0,0,0)).1)/\w.cell? ⟨b,off+k*3+1,none⟩=some (.int .i64 (l[k]?.getD (0,0,0)).2.1)/\w.cell? ⟨b,off+k*3+2,none⟩=some (.int .i64 (l[k]?.getD (0,0,0)).2.2)
theorem Bq.ext{w':World}{cap:Nat}(h:Bq w a n cap l)(hx:Ext w w'):Bq w' a n cap l :=
 ⟨h.hlen,h.l8,h.l9,fun k hk=>let⟨b,off,e,hc⟩:=h.cell k hk;⟨b,off,e,fun k hk=>⟨hx.j9 (hc k hk).1,hx.j9 (hc k hk).2.1,hx.j9 (hc k hk).2.2⟩⟩⟩
theorem Bq.at{cap:Nat}(h:Bq w a n cap l)(hk:k<n):
 ∃b off x y z,a=some ⟨b,off,none⟩/\l[k]?.getD (0,0,0)=(x,y,z)/\w.cell? ⟨b,off+k*3,none⟩=some (.int .i64 x)/\w.cell? ⟨b,off+k*3+1,none⟩=some (.int .i64 y)/\w.cell? ⟨b,off+k*3+2,none⟩=some (.int .i64 z) :=
 let⟨b,off,e,hc⟩:=h.cell k hk;⟨b,off,_,_,_,e,rfl,(hc k hk).1,(hc k hk).2.1,(hc k hk).2.2⟩
theorem iI(h:k<l.length):l.take (k+1)=l.take k++[l[k]?.getD (0,0,0)]:=by
 rw[Kn h];simp[h]
def fixC(p:Int×Int×Int):List Value:=[.int .i64 p.1,.int .i64 p.2.1,.int .i64 p.2.2]
def O9(l:j2):Array Value:=(l.flatMap fixC).toArray
theorem RW:∀(l:j2) (k:Nat),k<l.length->(l.flatMap fixC)[k*3]?=some (.int .i64 (l[k]?.getD (0,0,0)).1)/\(l.flatMap fixC)[k*3+1]?=some (.int .i64 (l[k]?.getD (0,0,0)).2.1)/\(l.flatMap fixC)[k*3+2]?=some (.int .i64 (l[k]?.getD (0,0,0)).2.2)
 | [],k,h=>absurd h e8
 | p::l,0,_=>by simp[fixC]
 | p::l,k+1,h=>by
   have:=RW l k (by simpa using h);rw[show(k+1)*3=k*3+1+1+1 by omega]
   simpa[fixC]using this
theorem O':∀(l:j2) (k:Nat) (x y z:Int),k<l.length->(((l.flatMap fixC).set (k*3) (.int .i64 x)).set (k*3+1) (.int .i64 y)).set (k*3+2) (.int .i64 z)=(l.set k (x,y,z)).flatMap fixC
 | [],k,_,_,_,h=>absurd h e8
 | p::l,0,_,_,_,_=>by simp[fixC]
 | p::l,k+1,x,y,z,h=>by
   have:=O' l k x y z (by simpa using h);rw[show(k+1)*3=k*3+1+1+1 by omega]
   simpa[fixC]using this
def FRow(w:World)(b:Nat)(t:TypeId)(l:j2):Prop:=w.heap[b]?=some (.cells (O9 l) t (0,0))
def Bo(l:j2)(s:Int):Bool:=l.any fun f=>f.1 == s
theorem xJ(h:k<l.length):Bo (l.take (k+1)) s=(Bo (l.take k) s||(l[k]?.getD (0,0,0)).1 == s):=by
 rw[iI h];simp[Bo]
theorem RS(h:k<l.length)(e:(l[k]?.getD (0,0,0)).1=s):Bo l s=true:=by
 unfold Bo;rw[abp];exact⟨l[k],vl h,by rw[bk h]at e;simpa using e⟩
theorem nK{cap:Nat}(h:Bq w a n cap l)(s:Int):
 Calls Tryz.prog 113 #[.slice a n cap,.int .i64 s] w fun e w'=>e=.returned (.bool (Bo l s))/\w=w':=by
 have l8:=h.l8;have l9:=h.l9;have HL:=ae h.hlen;have HF:=ae h;clear h;go_enter Tryz.func113,Tryz.ntmps113
 go_wp2_with fail
 go_loop [5] (fun ii=>∃k:Nat,k<=n/\ii=.int .i64 (k:Int)/\b7 (Bo (l.take k) s=false)) (fun ii=>n-(intOf ii).toNat)
 case atStart=>exact⟨0,KJ _,rfl,ae rfl⟩
 case round =>
  obtain⟨k,hk,rfl,HH⟩:=hrel;by_cases hlt:k<n
  ·obtain⟨b,off,x,y,z,rfl,hx,hc,Ba,CY⟩:=HF.o.at hlt;by_cases G:x=s
   ·have HT:=ae (RS (l:=l) (k:=k) (s:=s) (by rw[HL.o];exact hlt) (by rw[hx];exact G));subst G;clear hx;go_wp2_with fail;go_ret;exact⟨ag HT.o.symm,rfl⟩
   ·have Ri:(x == s)=false:=by simpa using G
    have HT:=ae (show Bo (l.take (k+1)) s=false by rw[xJ (by rw[HL.o];exact hlt),HH.o,hx];simpa using G);clear hx;go_wp2_with fail
    go_round
    case rel=>exact⟨k+1,by omega,by go_num,HT⟩
    case measure=>simp[intOf];omega
  ·have HT:=ae (show l.take k=l from p4 (by rw[HL.o];omega));go_wp2_with fail;go_ret;exact⟨ag (by have:=HH.o;rw[HT.o]at this;exact this.symm),rfl⟩
def aX(L:j2)(m:Nat):j7:=(BY 1 m).filter fun s=>!Bo L s
theorem wg(L:j2)(m:Nat):aX L (m+1)=aX L m++(if Bo L ((m:Int)+1)=true then [] else [(m:Int)+1]):=by
 unfold aX BY;rw[TP,We,aa8]
 congr 1
 rw[ac0,show(1:Int)+(m:Int)=(m:Int)+1 by omega];simp only[adj,List.filter_nil];cases Bo L ((m:Int)+1)<;>rfl
theorem dU(L:j2)(m:Nat):(aX L m).length<=m:=by
 unfold aX;exact SC (abG _ _) (by simp[BY])
theorem jx{L:j2}{m:Nat}(h:s∈aX L m):1<=s/\s<=m/\Bo L s=false:=by
 unfold aX BY at h;simp only[adF,aai,S4,Bool.not_eq_true']at h;obtain⟨⟨i,hi,rfl⟩,h2⟩:=h;exact⟨by omega,by omega,h2⟩
theorem lC(x:Int)(a:j6)(n cap:Nat)(hn:n<=1000){K:j6}{fn O:Nat}{L:j2}(h:Bq w K fn O L):
 Calls Tryz.prog 55 #[pair x a n cap,.slice K fn O] w fun e w'=>(∃v,e=.returned v/\o4 w' w.heap.size v (aX L (n-2)))/\Ext w w':=by
 obtain⟨m,hm⟩:=b9 (n-2);have HM:=ae hm;have HF:=ae h;have y7:=ae (Ext.alloc w (.cells #[.int .i64 x,.slice a n cap] 32));have HO:=ae (o4.Az (w.alloc (.cells #[.int .i64 x,.slice a n cap] 32)) (w.heap.size+1) (w.heap.size+1) e8 e8);rw[<-hm];clear h hm;go_enter Tryz.func55,Tryz.ntmps55
 go_wp2_with fail
 go_loopg [5,6] m (fun gk oo ii wr=>∃(k:Nat) (a1:j6) (I p1:Nat),b7 (gk+k=m)/\ii=.int .i64 ((k:Int)+1)/\oo=.slice a1 I p1/\b7 (o4 wr (w.heap.size+1) (.slice a1 I p1) (aX L k))/\b7 (Ext (w.alloc (.cells #[.int .i64 x,.slice a n cap] 32)) wr))
 case atStart=>exact⟨0,_,_,_,ae e7,by simp,rfl,HO,ae (Ext.alloc _ _)⟩
 case round =>
  obtain⟨g1,Z⟩:=b9 gk;subst Z;obtain⟨o6,o5⟩:=b9 wr;subst o5;obtain⟨k,a1,I,p1,G,rfl,rfl,zv,HX⟩:=hrel;have J:=HX.o.size;rw[V4]at J;have hc:o6.cell? ⟨w.heap.size,1,none⟩=some (.slice a n cap):=HX.o.j9 e8;have Cr:k<=m:=by have:=G.o;omega
  have hm1000:m<=1000:=by have:=HM.o;omega
  by_cases hlt:k<m
  ·have B1:(k:Int)+1<(n:Int)-1:=by have:=HM.o;omega
   have HL:=ae (dU L k);have HC:=ae (nK ((HF.o.ext y7.o).ext HX.o) ((k:Int)+1));have HS:=ae (wg L k);cases hb:Bo L ((k:Int)+1)
   ·rw[hb]at HC HS;clear hb
    go_wp2_with (first
     | (go_at_call 113;refine HC.o.mono ?_;rintro e w' ⟨rfl,rfl⟩)
     | (at_builtin;refine bu rfl _ _ rfl (w.heap.size+1) (.slice a1 I p1) _ rfl (zv.o.ext (Ext.alloc _ _)) _ 1 _ [(k:Int)+1] rfl (Ints.CL _ _ _ _ e8) (j1 HL.o) (by simp;omega) ?_;intro v5 w5 ho hg k9;obtain⟨a5,n5,U,rfl,CF⟩:=ho.var;have zW:=ae ho;have X5:=ae (ak (HX.o.trans (Ext.alloc _ _)) hg (fun j hj=>by have:=(zv.o.lt j hj);simp;omega));clear ho hg k9))
    go_roundg (g1-1)
    case measure=>have:=G.o;omega
    case rel=>exact⟨k+1,a5,n5,U,ae (j1 G.o),by go_num,rfl,ae (by have:=zW.o;rw[HS.o];exact this),X5⟩
   ·rw[hb]at HC HS;clear hb
    go_wp2_with (first
     | (go_at_call 113;refine HC.o.mono ?_;rintro e w' ⟨rfl,rfl⟩))
    go_roundg (g1-1)
    case measure=>have:=G.o;omega
    case rel=>exact⟨k+1,a1,I,p1,ae (j1 G.o),by go_num,rfl,ae (by have:=zv.o;rw[HS.o];simpa using this),HX⟩
  ·have Q:k=m:=by have:=G.o;omega
   have hnlt:¬(k:Int)+1<(n:Int)-1:=by have:=HM.o;omega
   subst Q;go_wp2_with fail;go_ret;exact⟨⟨_,rfl,zv.o.mono (Cj _)⟩,y7.o.trans HX.o⟩
