import Derived.Test.YtdadoignenffgaaGreatDoorEbAllG36
import Derived.Deep.DeepCutAuto
import Derived.Test.YtdadoignenffgaaGreatDoorEbAllG37
set_option linter.unusedVariables false
set_option linter.unusedSimpArgs false
namespace Go.Proofs.YtdadoignenffgaaGreatDoor
variable{l x t:List UInt8}{k N n:Nat}{w:World}{last:Int}{L:List (List UInt8)}{V:j7}
set_option maxHeartbeats 16000000
set_option maxRecDepth 100000
open Go.RowKit
theorem th(hk:k<32)(h:cI (k:Int)=l)(hn:∀s:Nat,s<k->cI (s:Int)≠l):CK l=some k:=by
 unfold CK;rw[List.find?_range_eq_some];refine⟨by simpa using h,S4.2 hk,fun j hj=>by simpa using hn j hj⟩
theorem qL(hn:∀s:Nat,s<32->cI (s:Int)≠l):CK l=none:=by
 unfold CK;rw[List.find?_eq_none];intro x hx
 simpa using hn x (S4.1 hx)
theorem nk(l:List UInt8):Calls Tryz.prog 59 #[.string (bs l)] w fun e w'=>e=.returned (.tuple #[.int .i64 (((CK l).getD 0:Nat):Int),.bool (CK l).isSome])/\Ext w w':=by
 obtain⟨t,ht⟩:=b9 (bs l);have HT:=ae ht;obtain⟨R,J⟩:=b9 (CK l);have C0:=ae J;rw[<-ht,<-J];clear ht J;go_enter Tryz.func59,Tryz.ntmps59
 go_wp2_with fail
 go_loopg [4] 32 (fun gk ss wr=>∃(k:Nat),b7 (gk+k=32)/\ss=.int .i64 (k:Int)/\b7 (∀s:Nat,s<k->cI (s:Int)≠l)/\b7 (Ext w wr))
 case atStart=>exact⟨0,ae rfl,rfl,ae (fun s hs=>absurd hs e7),ae (Ext.refl _)⟩
 case round =>
  obtain⟨g1,Q⟩:=b9 gk;subst Q;obtain⟨wr,U⟩:=b9 wr;subst U;obtain⟨k,K,rfl,HN,HX⟩:=hrel;by_cases hk:k<32
  ·have HF:=ae (is (w:=wr) k hk);by_cases hc:cI (k:Int)=l
   ·obtain rfl:=(show R=some k from C0.o.trans (th hk hc HN.o));have hne:((bs (cI (k:Int))).toList == t.toList)=true:=by rw[HT.o,bW,bW,hc];simp
    obtain⟨O,I⟩:=b9 (bs (cI (k:Int)));rw[<-I]at hne HF;clear I hc;go_wp2_with fail;refine HF.o.mono ?_;rintro e w1 ⟨rfl,hx⟩;have yZ:=ae (HX.o.trans hx);clear hx;go_wp2_with fail
    go_ret2
    exact⟨rfl,yZ.o⟩
   ·have hne:((bs (cI (k:Int))).toList == t.toList)=false:=by rw[HT.o,bW,bW];simpa using hc
    have ED:=ae (show∀s:Nat,s<k+1->cI (s:Int)≠l by
     intro s hs
     rcases Nat.lt_succ_iff_lt_or_eq.1 hs with h|h
     ·exact HN.o s h
     ·subst h;exact hc)
    obtain⟨O,I⟩:=b9 (bs (cI (k:Int)));rw[<-I]at hne HF;clear I hc;go_wp2_with fail;refine HF.o.mono ?_;rintro e w1 ⟨rfl,hx⟩;have yZ:=ae (HX.o.trans hx);clear hx;go_wp2_with fail
    go_roundg (g1-1)
    case measure=>have:=K.o;omega
    case rel=>exact⟨k+1,ae (j1 K.o),by go_num,ED,yZ⟩
  ·have G:k=32:=by have:=K.o;omega
   obtain rfl:=(show R=none from C0.o.trans (qL (by rw[<-G];exact HN.o)));clear G;go_wp2_with fail
   go_ret2
   exact⟨rfl,HX.o⟩
theorem nJ(l:List UInt8):Calls Tryz.prog 100 #[.string (bs l)] w fun e w'=>e=.returned (.tuple #[.int .i64 (((CK l).getD 0:Nat):Int),.bool (CK l).isSome])/\Ext w w':=by
 obtain⟨t,ht⟩:=b9 (bs l);have HT:=ae ht;obtain⟨R,J⟩:=b9 (CK l);have C0:=ae J;rw[<-ht,<-J];clear ht J;go_enter Tryz.func100,Tryz.ntmps100
 go_wp2_with fail
 go_loopg [4] 32 (fun gk ss wr=>∃(k:Nat),b7 (gk+k=32)/\ss=.int .i64 (k:Int)/\b7 (∀s:Nat,s<k->cI (s:Int)≠l)/\b7 (Ext w wr))
 case atStart=>exact⟨0,ae rfl,rfl,ae (fun s hs=>absurd hs e7),ae (Ext.refl _)⟩
 case round =>
  obtain⟨g1,Q⟩:=b9 gk;subst Q;obtain⟨wr,U⟩:=b9 wr;subst U;obtain⟨k,K,rfl,HN,HX⟩:=hrel;by_cases hk:k<32
  ·have HF:=ae (it (w:=wr) k hk);by_cases hc:cI (k:Int)=l
   ·obtain rfl:=(show R=some k from C0.o.trans (th hk hc HN.o));have hne:((bs (cI (k:Int))).toList == t.toList)=true:=by rw[HT.o,bW,bW,hc];simp
    obtain⟨O,I⟩:=b9 (bs (cI (k:Int)));rw[<-I]at hne HF;clear I hc;go_wp2_with fail;refine HF.o.mono ?_;rintro e w1 ⟨rfl,hx⟩;have yZ:=ae (HX.o.trans hx);clear hx;go_wp2_with fail
    go_ret2
    exact⟨rfl,yZ.o⟩
   ·have hne:((bs (cI (k:Int))).toList == t.toList)=false:=by rw[HT.o,bW,bW];simpa using hc
    have ED:=ae (show∀s:Nat,s<k+1->cI (s:Int)≠l by
     intro s hs
     rcases Nat.lt_succ_iff_lt_or_eq.1 hs with h|h
     ·exact HN.o s h
     ·subst h;exact hc)
    obtain⟨O,I⟩:=b9 (bs (cI (k:Int)));rw[<-I]at hne HF;clear I hc;go_wp2_with fail;refine HF.o.mono ?_;rintro e w1 ⟨rfl,hx⟩;have yZ:=ae (HX.o.trans hx);clear hx;go_wp2_with fail
    go_roundg (g1-1)
    case measure=>have:=K.o;omega
    case rel=>exact⟨k+1,ae (j1 K.o),by go_num,ED,yZ⟩
  ·have G:k=32:=by have:=K.o;omega
   obtain rfl:=(show R=none from C0.o.trans (qL (by rw[<-G];exact HN.o)));clear G;go_wp2_with fail
   go_ret2
   exact⟨rfl,HX.o⟩
def hO(b1 b2:Bool)(s:Nat)(v:Int)(last:Int)(N:Nat):Bool:=b1&&(b2&&(decide (last<(s:Int))&&(decide ((s:Int)<(N:Int))&&(!(v == 0)&&r9 v (-500) 500))))
theorem mF(G:Aa 32 l=L){x0 x1:List UInt8}(h2:L.length=2)(h0:L[0]?=some x0)(h1:L[1]?=some x1):
 eC N last l=if hO (CK x0).isSome (dS x1).isSome ((CK x0).getD 0) ((dS x1).getD 0) last N=true then some ((CK x0).getD 0,(dS x1).getD 0) else none:=by
 unfold eC hO;rw[G,h0,h1,hI h2,l',l'];cases CK x0 with
 | none=>simp
 | some s =>
   cases dS x1 with
   | none=>simp
   | some v =>
     simp only[aa7,l',aad,xf,sw,Bool.not_eq_true',abt,r9];by_cases h:last<(s:Int)/\s<N/\v≠0/\-500<=v/\v<=500
     ·rw[hI h,hI e7]
     ·rw[hD h,hD e7]
theorem mE(G:Aa 32 l=L)(h2:¬L.length=2):eC N last l=none:=by
 unfold eC;rw[G,hD h2]
def Py(R:Option (Nat×Int))(x y:Int):Prop:=∀sv,R=some sv->x=(sv.1:Int)/\y=sv.2
theorem Py.no{R:Option (Nat×Int)}(h:R=none)(x y:Int):Py R x y:=fun sv e=>by rw[h]at e;cases e
theorem qA(b1 G:Bool)(s:Nat)(v:Int)(last:Int)(N:Nat):
 (b1=false/\hO b1 G s v last N=false)∨(b1=true/\G=false/\hO b1 G s v last N=false)∨(b1=true/\G=true/\¬last<(s:Int)/\hO b1 G s v last N=false)
 ∨ (b1=true/\G=true/\last<(s:Int)/\¬(s:Int)<(N:Int)/\hO b1 G s v last N=false)
 ∨ (b1=true/\G=true/\last<(s:Int)/\(s:Int)<(N:Int)/\(v == 0)=true/\hO b1 G s v last N=false)
 ∨ (b1=true/\G=true/\last<(s:Int)/\(s:Int)<(N:Int)/\(v == 0)=false/\r9 v (-500) 500=false/\hO b1 G s v last N=false)
 ∨ (b1=true/\G=true/\last<(s:Int)/\(s:Int)<(N:Int)/\(v == 0)=false/\r9 v (-500) 500=true/\hO b1 G s v last N=true):=by
 unfold hO;cases b1
 ·left;simp
 ·cases G
  ·right;left;simp
  ·by_cases h1:last<(s:Int)
   ·by_cases h2:(s:Int)<(N:Int)
    ·cases h3:(v == 0)
     ·cases h4:r9 v (-500) 500
      ·right;right;right;right;right;left;simp[h1,h2]
      ·right;right;right;right;right;right;simp[h1,h2]
     ·right;right;right;right;left;simp[h1,h2]
    ·right;right;right;left;simp[h1,h2]
   ·right;right;left;simp[h1]
theorem M7{p:Int}{a:j6}{cap:Nat}(after:Int)(l:List UInt8)(hl:l.length<=1099511627700):Calls Tryz.prog 38 #[pair p a n cap,.string (bs l),.int .i64 after] w fun e w' =>
 (∃x y:Int,e=.returned (.tuple #[.int .i64 x,.int .i64 y,.bool (eC n after l).isSome])/\Py (eC n after l) x y)/\Ext w w':=by
 obtain⟨W,hW⟩:=b9 (w.alloc (.cells #[.int .i64 p,.slice a n cap] 32));have XW:=ae (show Ext w W by rw[hW];exact Ext.alloc _ _);have HR:=ae (show W.heap[w.heap.size]?=some (.cells #[.int .i64 p,.slice a n cap] 32 (0,0))by rw[hW];exact ai _ _ _ rfl);have Hj:=ae (jG (w:=W) l 32 hl);obtain⟨R,O⟩:∃R,eC n after l=R:=⟨_,rfl⟩;obtain⟨L,I⟩:∃L,Aa 32 l=L:=⟨_,rfl⟩;have EF:=ae (fun x0 x1=>mF (N:=n) (last:=after) I (x0:=x0) (x1:=x1));have QA:=ae (mE (N:=n) (last:=after) I);rw[I]at Hj;rw[O]at EF QA;rw[O];clear O I;go_enter Tryz.func38,Tryz.ntmps38
 go_upto_region 1 with fail;rw[<-hW];clear hW;go_wp2_with fail;refine Hj.o.mono ?_;rintro e w1 ⟨v,rfl,ho,hx⟩;obtain⟨a1,n1,c1,rfl,ED⟩:=ho.var;have J:=ae ho.Ej;have X1:=ae hx;have OM:=J.o.l8;have Ou:=J.o.l9;have Cd:=ae (XW.o.trans hx);clear ho hx;by_cases IZ:n1=2
 ·subst IZ;obtain⟨lb,lo,x0,rfl,K8,AB⟩:=J.o.at (k:=0) e7;obtain⟨lb',lo',x1,e',Zl,Ba⟩:=J.o.at (k:=1) e7;simp only[bA,mq,zz]at e';obtain⟨rfl,rfl⟩:=e';have q0:w1.cell? ⟨lb,lo,none⟩=some (.string (bs x0)):=by simpa[zH]using AB 0 _ rfl
  have q1:w1.cell? ⟨lb,lo+1,none⟩=some (.string (bs x1)):=by simpa[zH]using Ba 0 _ rfl
  have PK:=ae q1;have G:=ae (EF.o x0 x1 ED.o K8 Zl);have II:=ae (fun(w':World)=>nJ (w:=w') x0);have Q:=ae (fun(w':World)=>wT (w:=w') x1);obtain⟨b1,AS⟩:=b9 ((CK x0).isSome);obtain⟨b2,AD⟩:=b9 ((dS x1).isSome);obtain⟨s,hs⟩:=b9 ((CK x0).getD 0);obtain⟨v,hv⟩:=b9 ((dS x1).getD 0);rw[<-AS,<-AD,<-hs,<-hv]at G;simp only[<-AS,<-hs]at II;simp only[<-AD,<-hv]at Q;obtain⟨t0,F3⟩:=b9 (bs x0);obtain⟨t1,Z⟩:=b9 (bs x1);rw[<-F3]at q0;rw[<-Z]at q1 PK;simp only[<-F3]at II;simp only[<-Z]at Q;clear AS AD hs hv AB Ba K8 Zl F3 Z;go_wp2_with fail;refine(II.o _).mono ?_;rintro e w2 ⟨rfl,hx⟩;have X2:=ae (Cd.o.trans hx);have U:=ae (X1.o.trans hx);have K:=hx.j9 PK.o;clear hx q0 q1;go_wp2_with fail;refine(Q.o _).mono ?_;rintro e w3 ⟨rfl,hx⟩;have X3:=ae (X2.o.trans hx);have BH:=(U.o.trans hx).blk HR.o;have g1:=al BH;clear hx K BH;have key:=qA b1 b2 s v after n
  rcases key with⟨rfl,HZ⟩|⟨rfl,rfl,HZ⟩|⟨rfl,rfl,h3,HZ⟩|⟨rfl,rfl,h3,h4,HZ⟩|⟨rfl,rfl,h3,h4,h5,HZ⟩|⟨rfl,rfl,h3,h4,h5,h6,HZ⟩|⟨rfl,rfl,h3,h4,h5,h6,HZ⟩
  all_goals
   rw[HZ]at G;clear HZ
   try have h7:(v != 0)=true:=by rw[bne,h5];rfl
   try have h7:(v != 0)=false:=by rw[bne,h5];rfl
   go_wp2_with (first|(go_at_call 45;refine(aZ _ _ _ _).mono ?_;rintro e w4 ⟨rfl,rfl⟩))
   go_ret3
  ·exact⟨⟨_,_,by rw[G.o];rfl,.no G.o _ _⟩,X3.o⟩
  ·exact⟨⟨_,_,by rw[G.o];rfl,.no G.o _ _⟩,X3.o⟩
  ·exact⟨⟨_,_,by rw[G.o];rfl,.no G.o _ _⟩,X3.o⟩
  ·exact⟨⟨_,_,by rw[G.o];rfl,.no G.o _ _⟩,X3.o⟩
  ·exact⟨⟨_,_,by rw[G.o];rfl,.no G.o _ _⟩,X3.o⟩
  ·exact⟨⟨_,_,by rw[G.o];rfl,.no G.o _ _⟩,X3.o⟩
  ·exact⟨⟨_,_,by rw[G.o];rfl,fun sv IY=>by rw[G.o]at IY;cases IY;exact⟨rfl,rfl⟩⟩,X3.o⟩
 ·have hne:((n1:Int) == 2)=false:=by simp;omega
  have DA:=ae (QA.o (by rw[ED.o];exact IZ));go_wp2_with fail
  go_ret3
  exact⟨⟨_,_,by rw[DA.o];rfl,.no DA.o _ _⟩,Cd.o⟩
theorem nU(c:UInt8)(l:List UInt8):∀i,∀x∈(AF c l i).1,x.length<=l.length
 | 0=>fun x h=>by cases h
 | i+1=>fun x h=>by
   unfold AF at h
   split at h
   ·rcases aa'.1 h with h|h
    ·exact nU c l i x h
    ·rw[aav]at h;subst h;rw[aaj,FX];omega
   ·exact nU c l i x h
theorem tU{c:UInt8}(h:x∈Aa c l):x.length<=l.length:=by
 unfold Aa at h
 rcases aa'.1 h with h|h
 ·exact nU c l _ x h
 ·rw[aav]at h;subst h;rw[aaj];omega
theorem lF(c:UInt8)(l:List UInt8):(Aa c l).length<=l.length+1:=by
 have:=(lV c l l.length).2;unfold Aa;rw[pk,abb];omega
theorem BU.take{α:Type}{E:Enc α}{a:j6}{cap:Nat}{l:List α}(h:BU E w a n cap l){m:Nat}(hm:m<=n):BU E w a m cap (l.take m):=by
 refine⟨by rw[FX,h.hlen];omega,by have:=h.l8;omega,h.l9,fun k hk=>?_⟩;obtain⟨b,off,e,hc⟩:=h.cell k e7;refine⟨b,off,e,fun k x j v h1 h2=>hc k x j v ?_ h2⟩;rw[aao]at h1
 split at h1
 ·exact h1
 ·cases h1
theorem BU.drop1{b o cap:Nat}{l:List (List UInt8)}(h:BU zH w (some ⟨b,o,none⟩) (n+1) (cap+1) l):BU zH w (some ⟨b,o+1,none⟩) n cap (l.drop 1):=by
 refine⟨by rw[aaj,h.hlen];omega,by have:=h.l8;omega,by have:=h.l9;omega,fun k hk=>⟨b,o+1,rfl,fun k x j v h1 h2=>?_⟩⟩;obtain⟨b',o',e,hc⟩:=h.cell 0 e7;simp only[bA,mq,zz]at e;obtain⟨rfl,rfl⟩:=e;rw[aaS]at h1;have:=hc (1+k) x j v h1 h2;rw[show b=b from rfl]at this;have e2:o+(1+k)*zH.c+j=o+1+k*zH.c+j:=by show o+(1+k)*1+j=o+1+k*1+j;omega
 rwa [e2]at this
def fQ(L:List (List UInt8))(t:List UInt8):(Nat×j7)×Int :=
 if L=[] then((0,[]),0) else match dq (L[0]?.getD [])with
  | none=>((0,[]),0)
  | some n=>match ch (2^n.toNat) (L.drop 1) (L.length-1)with
    | .error k=>((0,[]),(k:Int))
    | .ok st=>if cY n.toNat st.1=t then((n.toNat,st.1),-1) else((0,[]),(L.length:Int))
theorem jF(t:List UInt8):di t=fQ (dG t) t:=rfl
theorem mH(h:L=[]):fQ L t=((0,[]),0):=by unfold fQ;rw[hI h]
theorem oP(h:L[0]?=some x)(hf:dq x=none):fQ L t=((0,[]),0):=by
 unfold fQ;rw[hD (fun e=>by rw[e]at h;cases h),h,l',hf]
theorem qN(h:L[0]?=some x){n:Int}(hf:dq x=some n){e:Nat}(hk:k<=L.length-1)(he:ch (2^n.toNat) (L.drop 1) k=.error e):fQ L t=((0,[]),(e:Int)):=by
 unfold fQ;rw[hD (fun e=>by rw[e]at h;cases h),h,l',hf];obtain⟨d,hd⟩:∃d,L.length-1=k+d:=⟨L.length-1-k,by omega⟩;simp only;rw[hd,mG he d]
theorem qM(h:L[0]?=some x){n:Int}(hf:dq x=some n)(he:ch (2^n.toNat) (L.drop 1) (L.length-1)=.ok (V,last)):
 fQ L t=if cY n.toNat V=t then((n.toNat,V),-1) else((0,[]),(L.length:Int)):=by
 unfold fQ;rw[hD (fun e=>by rw[e]at h;cases h),h,l',hf];simp only;rw[he]
theorem qB{D:List (List UInt8)}(h:ch N D k=.ok (V,last))(hx:D[k]?=some x)(hl:eC N last x=none):ch N D (k+1)=.error (k+1):=by
 rw[ch,h];simp only;rw[hx,l',hl]
theorem oL{D:List (List UInt8)}{G:Nat×Int}(h:ch N D k=.ok (V,last))(hx:D[k]?=some x)(hl:eC N last x=some G):ch N D (k+1)=.ok (V.set G.1 G.2,(G.1:Int)):=by
 rw[ch,h];simp only;rw[hx,l',hl]
theorem qC{u:Nat}(G:Aa 10 t=L)(hn:L.length=u+1)(hx:L[u]?=some x):dG t=if x=[] then L.take u else L:=by
 unfold dG;rw[G,hn,ac2,hx,l']
theorem qD(h:x∈dG t):x.length<=t.length:=by
 unfold dG at h
 split at h
 ·exact tU (acA h)
 ·exact tU h
