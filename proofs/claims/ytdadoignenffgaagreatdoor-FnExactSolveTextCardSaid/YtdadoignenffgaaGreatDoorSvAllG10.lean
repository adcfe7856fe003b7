import Derived.Test.YtdadoignenffgaaGreatDoorSvAllG6
import Derived.Deep.DeepCutAuto
import Derived.Test.YtdadoignenffgaaGreatDoorSvAllG9
set_option linter.unusedVariables false
set_option linter.unusedSimpArgs false
namespace Go.Proofs.YtdadoignenffgaaGreatDoor
variable{l x t:List UInt8}{k N n:Nat}{w:World}{last:Int}{L:List (List UInt8)}{V:j7}
set_option maxHeartbeats 16000000
set_option maxRecDepth 100000
open Go.RowKit
theorem pE(hk:k<32)(h:cg (k:Int)=l)(hn:∀s:Nat,s<k->cg (s:Int)≠l):zm l=some k:=by
 unfold zm;rw[List.find?_range_eq_some];refine⟨by simpa using h,List.mem_range.2 hk,fun j hj=>by simpa using hn j hj⟩
theorem nJ(hn:∀s:Nat,s<32->cg (s:Int)≠l):zm l=none:=by
 unfold zm;rw[List.find?_eq_none];intro x hx
 simpa using hn x (List.mem_range.1 hx)
theorem kE(l:List UInt8):Calls Tryz.prog 59 #[.string (bs l)] w fun e w'=>e=.returned (.tuple #[.int .i64 (((zm l).getD 0:Nat):Int),.bool (zm l).isSome])/\Ext w w':=by
 obtain⟨t,ht⟩:=b9 (bs l);have HT:=ae ht;obtain⟨R,I⟩:=b9 (zm l);have zE:=ae I;rw[<-ht,<-I];clear ht I;go_enter Tryz.func59,Tryz.ntmps59
 go_wp2_with fail
 go_loopg [4] 32 (fun gk ss wr=>∃(k:Nat),b7 (gk+k=32)/\ss=.int .i64 (k:Int)/\b7 (∀s:Nat,s<k->cg (s:Int)≠l)/\b7 (Ext w wr))
 case atStart=>exact⟨0,ae rfl,rfl,ae (fun s hs=>absurd hs e7),ae (Ext.refl _)⟩
 case round =>
  obtain⟨g1,Q⟩:=b9 gk;subst Q;obtain⟨wr,K⟩:=b9 wr;subst K;obtain⟨k,J,rfl,HN,HX⟩:=hrel;by_cases hk:k<32
  ·have HF:=ae (fU (w:=wr) k hk);by_cases hc:cg (k:Int)=l
   ·obtain rfl:=(show R=some k from zE.o.trans (pE hk hc HN.o));have hne:((bs (cg (k:Int))).toList == t.toList)=true:=by rw[HT.o,bL,bL,hc];simp
    obtain⟨O,G⟩:=b9 (bs (cg (k:Int)));rw[<-G]at hne HF;clear G hc;go_wp2_with fail;refine HF.o.mono ?_;rintro e w1 ⟨rfl,hx⟩;have vh:=ae (HX.o.trans hx);clear hx;go_wp2_with fail
    go_ret2
    exact⟨rfl,vh.o⟩
   ·have hne:((bs (cg (k:Int))).toList == t.toList)=false:=by rw[HT.o,bL,bL];simpa using hc
    have B3:=ae (show∀s:Nat,s<k+1->cg (s:Int)≠l by
     intro s hs
     rcases Nat.lt_succ_iff_lt_or_eq.1 hs with h|h
     ·exact HN.o s h
     ·subst h;exact hc)
    obtain⟨O,G⟩:=b9 (bs (cg (k:Int)));rw[<-G]at hne HF;clear G hc;go_wp2_with fail;refine HF.o.mono ?_;rintro e w1 ⟨rfl,hx⟩;have vh:=ae (HX.o.trans hx);clear hx;go_wp2_with fail
    go_roundg (g1-1)
    case measure=>have:=J.o;omega
    case rel=>exact⟨k+1,ae (j1 J.o),by go_num,B3,vh⟩
  ·have E:k=32:=by have:=J.o;omega
   obtain rfl:=(show R=none from zE.o.trans (nJ (by rw[<-E];exact HN.o)));clear E;go_wp2_with fail
   go_ret2
   exact⟨rfl,HX.o⟩
theorem kQ(l:List UInt8):Calls Tryz.prog 100 #[.string (bs l)] w fun e w'=>e=.returned (.tuple #[.int .i64 (((zm l).getD 0:Nat):Int),.bool (zm l).isSome])/\Ext w w':=by
 obtain⟨t,ht⟩:=b9 (bs l);have HT:=ae ht;obtain⟨R,I⟩:=b9 (zm l);have zE:=ae I;rw[<-ht,<-I];clear ht I;go_enter Tryz.func100,Tryz.ntmps100
 go_wp2_with fail
 go_loopg [4] 32 (fun gk ss wr=>∃(k:Nat),b7 (gk+k=32)/\ss=.int .i64 (k:Int)/\b7 (∀s:Nat,s<k->cg (s:Int)≠l)/\b7 (Ext w wr))
 case atStart=>exact⟨0,ae rfl,rfl,ae (fun s hs=>absurd hs e7),ae (Ext.refl _)⟩
 case round =>
  obtain⟨g1,Q⟩:=b9 gk;subst Q;obtain⟨wr,K⟩:=b9 wr;subst K;obtain⟨k,J,rfl,HN,HX⟩:=hrel;by_cases hk:k<32
  ·have HF:=ae (fV (w:=wr) k hk);by_cases hc:cg (k:Int)=l
   ·obtain rfl:=(show R=some k from zE.o.trans (pE hk hc HN.o));have hne:((bs (cg (k:Int))).toList == t.toList)=true:=by rw[HT.o,bL,bL,hc];simp
    obtain⟨O,G⟩:=b9 (bs (cg (k:Int)));rw[<-G]at hne HF;clear G hc;go_wp2_with fail;refine HF.o.mono ?_;rintro e w1 ⟨rfl,hx⟩;have vh:=ae (HX.o.trans hx);clear hx;go_wp2_with fail
    go_ret2
    exact⟨rfl,vh.o⟩
   ·have hne:((bs (cg (k:Int))).toList == t.toList)=false:=by rw[HT.o,bL,bL];simpa using hc
    have B3:=ae (show∀s:Nat,s<k+1->cg (s:Int)≠l by
     intro s hs
     rcases Nat.lt_succ_iff_lt_or_eq.1 hs with h|h
     ·exact HN.o s h
     ·subst h;exact hc)
    obtain⟨O,G⟩:=b9 (bs (cg (k:Int)));rw[<-G]at hne HF;clear G hc;go_wp2_with fail;refine HF.o.mono ?_;rintro e w1 ⟨rfl,hx⟩;have vh:=ae (HX.o.trans hx);clear hx;go_wp2_with fail
    go_roundg (g1-1)
    case measure=>have:=J.o;omega
    case rel=>exact⟨k+1,ae (j1 J.o),by go_num,B3,vh⟩
  ·have E:k=32:=by have:=J.o;omega
   obtain rfl:=(show R=none from zE.o.trans (nJ (by rw[<-E];exact HN.o)));clear E;go_wp2_with fail
   go_ret2
   exact⟨rfl,HX.o⟩
def fI(b1 b2:Bool)(s:Nat)(v:Int)(last:Int)(N:Nat):Bool:=b1&&(b2&&(decide (last<(s:Int))&&(decide ((s:Int)<(N:Int))&&(!(v == 0)&&r' v (-500) 500))))
theorem kl(E:vV 32 l=L){x0 x1:List UInt8}(h2:L.length=2)(h0:L[0]?=some x0)(h1:L[1]?=some x1):
 dZ N last l=if fI (zm x0).isSome (dw x1).isSome ((zm x0).getD 0) ((dw x1).getD 0) last N=true then some ((zm x0).getD 0,(dw x1).getD 0) else none:=by
 unfold dZ fI;rw[E,h0,h1,if_pos h2,Option.getD_some,Option.getD_some];cases zm x0 with
 | none=>simp
 | some s =>
   cases dw x1 with
   | none=>simp
   | some v =>
     simp only[Option.isSome_some,Option.getD_some,Bool.true_and,Bool.and_eq_true,decide_eq_true_eq,Bool.not_eq_true',beq_eq_false_iff_ne,r'];by_cases h:last<(s:Int)/\s<N/\v≠0/\-500<=v/\v<=500
     ·rw[if_pos h,if_pos e7]
     ·rw[if_neg h,if_neg e7]
theorem kj(E:vV 32 l=L)(h2:¬L.length=2):dZ N last l=none:=by
 unfold dZ;rw[E,if_neg h2]
def KX(R:Option (Nat×Int))(x y:Int):Prop:=∀sv,R=some sv->x=(sv.1:Int)/\y=sv.2
theorem KX.no{R:Option (Nat×Int)}(h:R=none)(x y:Int):KX R x y:=fun sv e=>by rw[h]at e;cases e
theorem nq(b1 E:Bool)(s:Nat)(v:Int)(last:Int)(N:Nat):
 (b1=false/\fI b1 E s v last N=false)∨(b1=true/\E=false/\fI b1 E s v last N=false)∨(b1=true/\E=true/\¬last<(s:Int)/\fI b1 E s v last N=false)
 ∨ (b1=true/\E=true/\last<(s:Int)/\¬(s:Int)<(N:Int)/\fI b1 E s v last N=false)
 ∨ (b1=true/\E=true/\last<(s:Int)/\(s:Int)<(N:Int)/\(v == 0)=true/\fI b1 E s v last N=false)
 ∨ (b1=true/\E=true/\last<(s:Int)/\(s:Int)<(N:Int)/\(v == 0)=false/\r' v (-500) 500=false/\fI b1 E s v last N=false)
 ∨ (b1=true/\E=true/\last<(s:Int)/\(s:Int)<(N:Int)/\(v == 0)=false/\r' v (-500) 500=true/\fI b1 E s v last N=true):=by
 unfold fI;cases b1
 ·left;simp
 ·cases E
  ·right;left;simp
  ·by_cases h1:last<(s:Int)
   ·by_cases h2:(s:Int)<(N:Int)
    ·cases h3:(v == 0)
     ·cases h4:r' v (-500) 500
      ·right;right;right;right;right;left;simp[h1,h2]
      ·right;right;right;right;right;right;simp[h1,h2]
     ·right;right;right;right;left;simp[h1,h2]
    ·right;right;right;left;simp[h1,h2]
   ·right;right;left;simp[h1]
theorem I3{p:Int}{a:j6}{cap:Nat}(after:Int)(l:List UInt8)(hl:l.length<=1099511627700):Calls Tryz.prog 38 #[pair p a n cap,.string (bs l),.int .i64 after] w fun e w' =>
 (∃x y:Int,e=.returned (.tuple #[.int .i64 x,.int .i64 y,.bool (dZ n after l).isSome])/\KX (dZ n after l) x y)/\Ext w w':=by
 obtain⟨W,hW⟩:=b9 (w.alloc (.cells #[.int .i64 p,.slice a n cap] 32));have XW:=ae (show Ext w W by rw[hW];exact Ext.alloc _ _);have HR:=ae (show W.heap[w.heap.size]?=some (.cells #[.int .i64 p,.slice a n cap] 32 (0,0))by rw[hW];exact aj _ _ _ rfl);have D':=ae (it (w:=W) l 32 hl);obtain⟨R,O⟩:∃R,dZ n after l=R:=⟨_,rfl⟩;obtain⟨L,G⟩:∃L,vV 32 l=L:=⟨_,rfl⟩;have Bi:=ae (fun x0 x1=>kl (N:=n) (last:=after) G (x0:=x0) (x1:=x1));have L0:=ae (kj (N:=n) (last:=after) G);rw[G]at D';rw[O]at Bi L0;rw[O];clear O G;go_enter Tryz.func38,Tryz.ntmps38
 go_upto_region 1 with fail;rw[<-hW];clear hW;go_wp2_with fail;refine D'.o.mono ?_;rintro e w1 ⟨v,rfl,K,hx⟩;obtain⟨a1,n1,c1,rfl,B3⟩:=K.var;have I:=ae K.A2;have X1:=ae hx;have Ko:=I.o.l8;have J':=I.o.o0;have yK:=ae (XW.o.trans hx);clear K hx;by_cases Eu:n1=2
 ·subst Eu;obtain⟨lb,lo,x0,rfl,GH,wK⟩:=I.o.at (k:=0) e7;obtain⟨lb',lo',x1,e',TS,xB⟩:=I.o.at (k:=1) e7;simp only[Option.some.injEq,Addr.mk.injEq,and_true]at e';obtain⟨rfl,rfl⟩:=e';have q0:w1.cell? ⟨lb,lo,none⟩=some (.string (bs x0)):=by simpa[vI]using wK 0 _ rfl
  have q1:w1.cell? ⟨lb,lo+1,none⟩=some (.string (bs x1)):=by simpa[vI]using xB 0 _ rfl
  have UE:=ae q1;have E:=ae (Bi.o x0 x1 B3.o GH TS);have Ed:=ae (fun(w':World)=>kQ (w:=w') x0);have Q:=ae (fun(w':World)=>ta (w:=w') x1);obtain⟨b1,xL⟩:=b9 ((zm x0).isSome);obtain⟨b2,wU⟩:=b9 ((dw x1).isSome);obtain⟨s,hs⟩:=b9 ((zm x0).getD 0);obtain⟨v,hv⟩:=b9 ((dw x1).getD 0);rw[<-xL,<-wU,<-hs,<-hv]at E;simp only[<-xL,<-hs]at Ed;simp only[<-wU,<-hv]at Q;obtain⟨t0,Cp⟩:=b9 (bs x0);obtain⟨t1,Z⟩:=b9 (bs x1);rw[<-Cp]at q0;rw[<-Z]at q1 UE;simp only[<-Cp]at Ed;simp only[<-Z]at Q;clear xL wU hs hv wK xB GH TS Cp Z;go_wp2_with fail;refine(Ed.o _).mono ?_;rintro e w2 ⟨rfl,hx⟩;have X2:=ae (yK.o.trans hx);have U:=ae (X1.o.trans hx);have J:=hx.j9 UE.o;clear hx q0 q1;go_wp2_with fail;refine(Q.o _).mono ?_;rintro e w3 ⟨rfl,hx⟩;have X3:=ae (X2.o.trans hx);have yi:=(U.o.trans hx).blk HR.o;have g1:=bp yi;clear hx J yi;have key:=nq b1 b2 s v after n
  rcases key with⟨rfl,HZ⟩|⟨rfl,rfl,HZ⟩|⟨rfl,rfl,h3,HZ⟩|⟨rfl,rfl,h3,h4,HZ⟩|⟨rfl,rfl,h3,h4,h5,HZ⟩|⟨rfl,rfl,h3,h4,h5,h6,HZ⟩|⟨rfl,rfl,h3,h4,h5,h6,HZ⟩
  all_goals
   rw[HZ]at E;clear HZ
   try have h7:(v != 0)=true:=by rw[bne,h5];rfl
   try have h7:(v != 0)=false:=by rw[bne,h5];rfl
   go_wp2_with (first|(go_at_call 45;refine(bm _ _ _ _).mono ?_;rintro e w4 ⟨rfl,rfl⟩))
   go_ret3
  ·exact⟨⟨_,_,by rw[E.o];rfl,.no E.o _ _⟩,X3.o⟩
  ·exact⟨⟨_,_,by rw[E.o];rfl,.no E.o _ _⟩,X3.o⟩
  ·exact⟨⟨_,_,by rw[E.o];rfl,.no E.o _ _⟩,X3.o⟩
  ·exact⟨⟨_,_,by rw[E.o];rfl,.no E.o _ _⟩,X3.o⟩
  ·exact⟨⟨_,_,by rw[E.o];rfl,.no E.o _ _⟩,X3.o⟩
  ·exact⟨⟨_,_,by rw[E.o];rfl,.no E.o _ _⟩,X3.o⟩
  ·exact⟨⟨_,_,by rw[E.o];rfl,fun sv Es=>by rw[E.o]at Es;cases Es;exact⟨rfl,rfl⟩⟩,X3.o⟩
 ·have hne:((n1:Int) == 2)=false:=by simp;omega
  have Ai:=ae (L0.o (by rw[B3.o];exact Eu));go_wp2_with fail
  go_ret3
  exact⟨⟨_,_,by rw[Ai.o];rfl,.no Ai.o _ _⟩,yK.o⟩
theorem kX(c:UInt8)(l:List UInt8):∀i,∀x∈(wN c l i).1,x.length<=l.length
 | 0=>fun x h=>by cases h
 | i+1=>fun x h=>by
   unfold wN at h
   split at h
   ·rcases List.mem_append.1 h with h|h
    ·exact kX c l i x h
    ·rw[List.mem_singleton]at h;subst h;rw[List.length_drop,List.length_take];omega
   ·exact kX c l i x h
theorem qd{c:UInt8}(h:x∈vV c l):x.length<=l.length:=by
 unfold vV at h
 rcases List.mem_append.1 h with h|h
 ·exact kX c l _ x h
 ·rw[List.mem_singleton]at h;subst h;rw[List.length_drop];omega
theorem jE(c:UInt8)(l:List UInt8):(vV c l).length<=l.length+1:=by
 have:=(jQ c l l.length).2;unfold vV;rw[List.length_append,List.length_singleton];omega
theorem yM.take{α:Type}{E:Enc α}{a:j6}{cap:Nat}{l:List α}(h:yM E w a n cap l){m:Nat}(hm:m<=n):yM E w a m cap (l.take m):=by
 refine⟨by rw[List.length_take,h.hlen];omega,by have:=h.l8;omega,h.o0,fun k hk=>?_⟩;obtain⟨b,off,e,hc⟩:=h.cell k e7;refine⟨b,off,e,fun k x j v h1 h2=>hc k x j v ?_ h2⟩;rw[List.getElem?_take]at h1
 split at h1
 ·exact h1
 ·cases h1
theorem yM.drop1{b o cap:Nat}{l:List (List UInt8)}(h:yM vI w (some ⟨b,o,none⟩) (n+1) (cap+1) l):yM vI w (some ⟨b,o+1,none⟩) n cap (l.drop 1):=by
 refine⟨by rw[List.length_drop,h.hlen];omega,by have:=h.l8;omega,by have:=h.o0;omega,fun k hk=>⟨b,o+1,rfl,fun k x j v h1 h2=>?_⟩⟩;obtain⟨b',o',e,hc⟩:=h.cell 0 e7;simp only[Option.some.injEq,Addr.mk.injEq,and_true]at e;obtain⟨rfl,rfl⟩:=e;rw[List.getElem?_drop]at h1;have:=hc (1+k) x j v h1 h2;rw[show b=b from rfl]at this;have e2:o+(1+k)*vI.c+j=o+1+k*vI.c+j:=by show o+(1+k)*1+j=o+1+k*1+j;omega
 rwa [e2]at this
def eV(L:List (List UInt8))(t:List UInt8):(Nat×j7)×Int :=
 if L=[] then((0,[]),0) else match cQ (L[0]?.getD [])with
  | none=>((0,[]),0)
  | some n=>match bP (2^n.toNat) (L.drop 1) (L.length-1)with
    | .error k=>((0,[]),(k:Int))
    | .ok st=>if dq n.toNat st.1=t then((n.toNat,st.1),-1) else((0,[]),(L.length:Int))
theorem is(t:List UInt8):cJ t=eV (dg t) t:=rfl
theorem ko(h:L=[]):eV L t=((0,[]),0):=by unfold eV;rw[if_pos h]
theorem lQ(h:L[0]?=some x)(hf:cQ x=none):eV L t=((0,[]),0):=by
 unfold eV;rw[if_neg (fun e=>by rw[e]at h;cases h),h,Option.getD_some,hf]
theorem nL(h:L[0]?=some x){n:Int}(hf:cQ x=some n){e:Nat}(hk:k<=L.length-1)(he:bP (2^n.toNat) (L.drop 1) k=.error e):eV L t=((0,[]),(e:Int)):=by
 unfold eV;rw[if_neg (fun e=>by rw[e]at h;cases h),h,Option.getD_some,hf];obtain⟨d,hd⟩:∃d,L.length-1=k+d:=⟨L.length-1-k,by omega⟩;simp only;rw[hd,km he d]
theorem nK(h:L[0]?=some x){n:Int}(hf:cQ x=some n)(he:bP (2^n.toNat) (L.drop 1) (L.length-1)=.ok (V,last)):
 eV L t=if dq n.toNat V=t then((n.toNat,V),-1) else((0,[]),(L.length:Int)):=by
 unfold eV;rw[if_neg (fun e=>by rw[e]at h;cases h),h,Option.getD_some,hf];simp only;rw[he]
theorem ns{D:List (List UInt8)}(h:bP N D k=.ok (V,last))(hx:D[k]?=some x)(hl:dZ N last x=none):bP N D (k+1)=.error (k+1):=by
 rw[bP,h];simp only;rw[hx,Option.getD_some,hl]
theorem lM{D:List (List UInt8)}{E:Nat×Int}(h:bP N D k=.ok (V,last))(hx:D[k]?=some x)(hl:dZ N last x=some E):bP N D (k+1)=.ok (V.set E.1 E.2,(E.1:Int)):=by
 rw[bP,h];simp only;rw[hx,Option.getD_some,hl]
theorem nt{u:Nat}(E:vV 10 t=L)(hn:L.length=u+1)(hx:L[u]?=some x):dg t=if x=[] then L.take u else L:=by
 unfold dg;rw[E,hn,Nat.add_sub_cancel,hx,Option.getD_some]
theorem nu(h:x∈dg t):x.length<=t.length:=by
 unfold dg at h
 split at h
 ·exact qd (List.mem_of_mem_take h)
 ·exact qd h
end Go.Proofs.YtdadoignenffgaaGreatDoor
