import Derived.Test.YtdadoignenffgaaGreatDoorSvAllG7
import Derived.Test.YtdadoignenffgaaGreatDoorSvAllG12
import Derived.Deep.DeepCutAuto
import Derived.Test.YtdadoignenffgaaGreatDoorSvAllG45
import Derived.Test.YtdadoignenffgaaGreatDoorSvAllG9
import Derived.Lib.SliceRun
import Derived.Test.YtdadoignenffgaaGreatDoorSvAllG8
set_option linter.unusedVariables false
set_option linter.unusedSimpArgs false
namespace Go.Proofs.YtdadoignenffgaaGreatDoor
variable{w:World}{a:j6}{n k zw i base g:Nat}{l L:j2}{s:Int}{M:j7}{fid:FuncId}{ca:Array Value}
set_option maxHeartbeats 16000000
open Go.RowKit
structure xV(w:World)(a:j6)(n cap:Nat)(l:j2):Prop where
 hlen:l.length=n
 l8:n<=cap
 o0:cap<=9223372036854775807
 cell:∀k,k<n->∃b off,a=some ⟨b,off,none⟩/\∀k,k<n->w.cell? ⟨b,off+k*3,none⟩=some (.int .i64 (l[k]?.getD (0,0,0)).1)/\w.cell? ⟨b,off+k*3+1,none⟩=some (.int .i64 (l[k]?.getD (0,0,0)).2.1)/\w.cell? ⟨b,off+k*3+2,none⟩=some (.int .i64 (l[k]?.getD (0,0,0)).2.2)
theorem xV.ext{w':World}{cap:Nat}(h:xV w a n cap l)(hx:Ext w w'):xV w' a n cap l :=
 ⟨h.hlen,h.l8,h.o0,fun k hk=>let⟨b,off,e,hc⟩:=h.cell k hk;⟨b,off,e,fun k hk=>⟨hx.j9 (hc k hk).1,hx.j9 (hc k hk).2.1,hx.j9 (hc k hk).2.2⟩⟩⟩
theorem xV.at{cap:Nat}(h:xV w a n cap l)(hk:k<n):
 ∃b off x y z,a=some ⟨b,off,none⟩/\l[k]?.getD (0,0,0)=(x,y,z)/\w.cell? ⟨b,off+k*3,none⟩=some (.int .i64 x)/\w.cell? ⟨b,off+k*3+1,none⟩=some (.int .i64 y)/\w.cell? ⟨b,off+k*3+2,none⟩=some (.int .i64 z) :=
 let⟨b,off,e,hc⟩:=h.cell k hk;⟨b,off,_,_,_,e,rfl,(hc k hk).1,(hc k hk).2.1,(hc k hk).2.2⟩
theorem gw(h:k<l.length):l.take (k+1)=l.take k++[l[k]?.getD (0,0,0)]:=by
 rw[List.take_succ_eq_append_getElem h];simp[h]
def fixC(p:Int×Int×Int):List Value:=[.int .i64 p.1,.int .i64 p.2.1,.int .i64 p.2.2]
def KF(l:j2):Array Value:=(l.flatMap fixC).toArray
theorem Nu:∀(l:j2) (k:Nat),k<l.length->(l.flatMap fixC)[k*3]?=some (.int .i64 (l[k]?.getD (0,0,0)).1)/\(l.flatMap fixC)[k*3+1]?=some (.int .i64 (l[k]?.getD (0,0,0)).2.1)/\(l.flatMap fixC)[k*3+2]?=some (.int .i64 (l[k]?.getD (0,0,0)).2.2)
 | [],k,h=>absurd h e8
 | p::l,0,_=>by simp[fixC]
 | p::l,k+1,h=>by
   have:=Nu l k (by simpa using h);rw[show(k+1)*3=k*3+1+1+1 by omega]
   simpa[fixC]using this
theorem KG:∀(l:j2) (k:Nat) (x y z:Int),k<l.length->(((l.flatMap fixC).set (k*3) (.int .i64 x)).set (k*3+1) (.int .i64 y)).set (k*3+2) (.int .i64 z)=(l.set k (x,y,z)).flatMap fixC
 | [],k,_,_,_,h=>absurd h e8
 | p::l,0,_,_,_,_=>by simp[fixC]
 | p::l,k+1,x,y,z,h=>by
   have:=KG l k x y z (by simpa using h);rw[show(k+1)*3=k*3+1+1+1 by omega]
   simpa[fixC]using this
def FRow(w:World)(b:Nat)(t:TypeId)(l:j2):Prop:=w.heap[b]?=some (.cells (KF l) t (0,0))
def xT(l:j2)(s:Int):Bool:=l.any fun f=>f.1 == s
theorem tO(h:k<l.length):xT (l.take (k+1)) s=(xT (l.take k) s||(l[k]?.getD (0,0,0)).1 == s):=by
 rw[gw h];simp[xT]
theorem Np(h:k<l.length)(e:(l[k]?.getD (0,0,0)).1=s):xT l s=true:=by
 unfold xT;rw[List.any_eq_true];exact⟨l[k],List.getElem_mem h,by rw[List.getElem?_eq_getElem h]at e;simpa using e⟩
theorem kR{cap:Nat}(h:xV w a n cap l)(s:Int):
 Calls Tryz.prog 113 #[.slice a n cap,.int .i64 s] w fun e w'=>e=.returned (.bool (xT l s))/\w=w':=by
 have l8:=h.l8;have o0:=h.o0;have HL:=ae h.hlen;have HF:=ae h;clear h;go_enter Tryz.func113,Tryz.ntmps113
 go_wp2_with fail
 go_loop [5] (fun ii=>∃k:Nat,k<=n/\ii=.int .i64 (k:Int)/\b7 (xT (l.take k) s=false)) (fun ii=>n-(intOf ii).toNat)
 case atStart=>exact⟨0,Nat.zero_le _,rfl,ae rfl⟩
 case round =>
  obtain⟨k,hk,rfl,HH⟩:=hrel;by_cases hlt:k<n
  ·obtain⟨b,off,x,y,z,rfl,hx,hc,xB,zC⟩:=HF.o.at hlt;by_cases E:x=s
   ·have HT:=ae (Np (l:=l) (k:=k) (s:=s) (by rw[HL.o];exact hlt) (by rw[hx];exact E));subst E;clear hx;go_wp2_with fail;go_ret;exact⟨ai HT.o.symm,rfl⟩
   ·have ML:(x == s)=false:=by simpa using E
    have HT:=ae (show xT (l.take (k+1)) s=false by rw[tO (by rw[HL.o];exact hlt),HH.o,hx];simpa using E);clear hx;go_wp2_with fail
    go_round
    case rel=>exact⟨k+1,by omega,by go_num,HT⟩
    case measure=>simp[intOf];omega
  ·have HT:=ae (show l.take k=l from List.take_of_length_le (by rw[HL.o];omega));go_wp2_with fail;go_ret;exact⟨ai (by have:=HH.o;rw[HT.o]at this;exact this.symm),rfl⟩
def aN(L:j2)(m:Nat):j7:=(yA 1 m).filter fun s=>!xT L s
theorem su(L:j2)(m:Nat):aN L (m+1)=aN L m++(if xT L ((m:Int)+1)=true then [] else [(m:Int)+1]):=by
 unfold aN yA;rw[List.range_succ,List.map_append,List.filter_append]
 congr 1
 rw[List.map_singleton,show(1:Int)+(m:Int)=(m:Int)+1 by omega];simp only[List.filter_cons,List.filter_nil];cases xT L ((m:Int)+1)<;>rfl
theorem dA(L:j2)(m:Nat):(aN L m).length<=m:=by
 unfold aN;exact Nat.le_trans (List.length_filter_le _ _) (by simp[yA])
theorem il{m:Nat}(h:s∈aN L m):1<=s/\s<=m/\xT L s=false:=by
 unfold aN yA at h;simp only[List.mem_filter,List.mem_map,List.mem_range,Bool.not_eq_true']at h;obtain⟨⟨i,hi,rfl⟩,h2⟩:=h;exact⟨by omega,by omega,h2⟩
theorem jB(x:Int)(a:j6)(n cap:Nat)(hn:n<=1000){I:j6}{fn:Nat}(h:xV w I fn zw L):
 Calls Tryz.prog 55 #[pair x a n cap,.slice I fn zw] w fun e w'=>(∃v,e=.returned v/\o5 w' w.heap.size v (aN L (n-2)))/\Ext w w':=by
 obtain⟨m,hm⟩:=b9 (n-2);have HM:=ae hm;have HF:=ae h;have uV:=ae (Ext.alloc w (.cells #[.int .i64 x,.slice a n cap] 32));have HO:=ae (o5.wJ (w.alloc (.cells #[.int .i64 x,.slice a n cap] 32)) (w.heap.size+1) (w.heap.size+1) e8 e8);rw[<-hm];clear h hm;go_enter Tryz.func55,Tryz.ntmps55
 go_wp2_with fail
 go_loopg [5,6] m (fun gk oo ii wr=>∃(k:Nat) (a1:j6) (G p1:Nat),b7 (gk+k=m)/\ii=.int .i64 ((k:Int)+1)/\oo=.slice a1 G p1/\b7 (o5 wr (w.heap.size+1) (.slice a1 G p1) (aN L k))/\b7 (Ext (w.alloc (.cells #[.int .i64 x,.slice a n cap] 32)) wr))
 case atStart=>exact⟨0,_,_,_,ae e7,by simp,rfl,HO,ae (Ext.alloc _ _)⟩
 case round =>
  obtain⟨g1,Q⟩:=b9 gk;subst Q;obtain⟨O,U⟩:=b9 wr;subst U;obtain⟨k,a1,G,p1,E,rfl,rfl,vw,HX⟩:=hrel;have hsz:=HX.o.size;rw[World.size_alloc]at hsz;have hc:O.cell? ⟨w.heap.size,1,none⟩=some (.slice a n cap):=HX.o.j9 e8;have yV:k<=m:=by have:=E.o;omega
  have XG:m<=1000:=by have:=HM.o;omega
  by_cases hlt:k<m
  ·have zv:(k:Int)+1<(n:Int)-1:=by have:=HM.o;omega
   have HL:=ae (dA L k);have HC:=ae (kR ((HF.o.ext uV.o).ext HX.o) ((k:Int)+1));have HS:=ae (su L k);cases hb:xT L ((k:Int)+1)
   ·rw[hb]at HC HS;clear hb
    go_wp2_with (first
     | (go_at_call 113;refine HC.o.mono ?_;rintro e w' ⟨rfl,rfl⟩)
     | (at_builtin;refine bv rfl _ _ rfl (w.heap.size+1) (.slice a1 G p1) _ rfl (vw.o.ext (Ext.alloc _ _)) _ 1 _ [(k:Int)+1] rfl (Ints.zp _ _ _ _ e8) (j1 HL.o) (by simp;omega) ?_;intro v5 w5 ho hg l7;obtain⟨a5,W,K,rfl,zj⟩:=ho.var;have vU:=ae ho;have X5:=ae (ak (HX.o.trans (Ext.alloc _ _)) hg (fun j hj=>by have:=(vw.o.lt j hj);simp;omega));clear ho hg l7))
    go_roundg (g1-1)
    case measure=>have:=E.o;omega
    case rel=>exact⟨k+1,a5,W,K,ae (j1 E.o),by go_num,rfl,ae (by have:=vU.o;rw[HS.o];exact this),X5⟩
   ·rw[hb]at HC HS;clear hb
    go_wp2_with (first
     | (go_at_call 113;refine HC.o.mono ?_;rintro e w' ⟨rfl,rfl⟩))
    go_roundg (g1-1)
    case measure=>have:=E.o;omega
    case rel=>exact⟨k+1,a1,G,p1,ae (j1 E.o),by go_num,rfl,ae (by have:=vw.o;rw[HS.o];simpa using this),HX⟩
  ·have J:k=m:=by have:=E.o;omega
   have Xw:¬(k:Int)+1<(n:Int)-1:=by have:=HM.o;omega
   subst J;go_wp2_with fail;go_ret;exact⟨⟨_,rfl,vw.o.mono (Nat.le_succ _)⟩,uV.o.trans HX.o⟩
set_option maxRecDepth 100000
structure Kept(p:Int->Bool)(l M:j7)(i j:Nat):Prop where
 len:M.length=l.length
 le:i<=j
 jl:j<=l.length
 lo:M.take i=(l.take j).filter fun x=>!p x
 hi:∀k,j<=k->M[k]?.getD 0=l[k]?.getD 0
theorem Kept.drop{p:Int->Bool}{l:j7}{j:Nat}(h:Kept p l M i j)(E:j<l.length)(hp:p (l[j]?.getD 0)=true):Kept p l M i (j+1) :=
 ⟨h.len,by have:=h.le;omega,by omega,by rw[cH E,List.filter_append,<-h.lo];simp[hp],fun k hk=>h.hi k e7⟩
theorem Kept.keep{p:Int->Bool}{l:j7}{j:Nat}(h:Kept p l M i j)(E:j<l.length)(hp:p (l[j]?.getD 0)=false):Kept p l (M.set i (l[j]?.getD 0)) (i+1) (j+1):=by
 have hi:i<M.length:=by have:=h.le;have:=h.len;omega
 refine⟨by rw[List.length_set];exact h.len,by have:=h.le;omega,by omega,?_,fun k hk=>?_⟩
 ·rw[cH E,List.filter_append,<-h.lo,List.take_succ_eq_append_getElem (by rw[List.length_set];exact hi),List.take_set_of_le (Nat.le_refl _),List.getElem_set_self];simp[hp]
 ·have:=h.le;rw[List.getElem?_set_ne e7];exact h.hi k e7
theorem Kept.start{p:Int->Bool}{l:j7}(hi:i<l.length)(ha:(l.take i).all (fun x=>!p x)=true)(hp:p (l[i]?.getD 0)=true):Kept p l l i (i+1):=by
 refine⟨rfl,by omega,by omega,?_,fun _ _=>rfl⟩;rw[cH hi,List.filter_append];have:(l.take i).filter (fun x=>!p x)=l.take i:=List.filter_eq_self.2 fun x hx=>List.all_eq_true.1 ha x hx
 rw[this];simp[hp]
theorem o5.zeros{cap:Nat}:∀(m:Nat) {o:Nat} {w:World} {M:j7},o5 w base (.slice (some ⟨g,0,none⟩) n cap) M->∃E,o5 (w.setCells g o (List.replicate m (.int .i64 0))) base (.slice (some ⟨g,0,none⟩) n cap) E/\E.take o=M.take o
 | 0,_,_,M,h=>⟨M,h,rfl⟩
 | m+1,o,w,M,h=>by
   obtain⟨E,h1,h2⟩:=o5.zeros m (o:=o+1) (h.set o 0);refine⟨E,h1,?_⟩;have h3:=congrArg (List.take o) h2;rw[List.take_take,List.take_take,Nat.min_eq_left e7]at h3;rw[h3,List.take_set_of_le (Nat.le_refl _)]
theorem o5.Sj{cap:Nat}(h:o5 w base (.slice (some ⟨g,0,none⟩) n cap) M)(hk:k<=n):o5 w base (.slice (some ⟨g,0,none⟩) k cap) (M.take k):=by
 rcases h.2 with⟨he,h0⟩|⟨g',cap',cur,he,hb,hg,h1,h2,hs,ht⟩
 ·cases he
 ·simp only[Value.slice.injEq,Option.some.injEq,Addr.mk.injEq,and_true]at he;obtain⟨rfl,rfl,rfl⟩:=he;have hl:(M.take k).length=k:=by simp;omega
  refine⟨by simp,.inr ⟨g,cap,cur,by rw[hl],hb,hg,by omega,h2,hs,?_⟩⟩;rw[hl,List.map_take,<-ht,List.take_take,Nat.mul_one,Nat.mul_one,Nat.min_eq_left hk]
theorem o5.EL{cap:Nat}{l:j7}(h:o5 w base (.slice (some ⟨g,0,none⟩) n cap) l):base<=g/\g<w.heap.size/\(∀j,w.frozen? ⟨g,j,none⟩=false)/\∀k,k<n->w.cell? ⟨g,k,none⟩=some (.int .i64 (l[k]?.getD 0)):=by
 rcases h.2 with⟨he,h0⟩|⟨g',cap',cur,he,hb,hg,h1,h2,hs,ht⟩
 ·cases he
 ·have E:g'=g:=by simp only[Value.slice.injEq,Option.some.injEq,Addr.mk.injEq,and_true]at he;exact he.1.symm
  subst E;refine⟨hb,lt_of_block hg,fun j=>frozen_of_row w g' j cur _ hg,fun k hk=>?_⟩;obtain⟨b,off,e,hc⟩:=h.ints.at hk;simp only[Option.some.injEq,Addr.mk.injEq,and_true]at e;rw[<-e.1,<-e.2,Nat.zero_add]at hc;exact hc
theorem ie{B:Nat}{a:World}(b:Nat)(hb:B<=b):∀(E:List Value) (o:Nat) {w:World},Below B a w->Below B a (w.setCells b o E)
 | [],_,_,h=>h
 | v::r,o,w,h=>ie b hb r (o+1) (h.setCell hb v)
theorem IG(w:World):(zeroValue 3).run Tryz.prog w=.ok (.int .i64 0) w:=rfl
theorem pe{Q:World}{cap:Nat}{l:j7}{p:Int->Bool}(hX:Ext Q w)(hb:Q.heap.size<=base)(h:o5 w base (.slice (some ⟨g,0,none⟩) n cap) l)(hn:0<n)(hg:IsGo Tryz.prog fid)(hf:Eo Tryz.prog Q fid ca p):
 Calls Tryz.prog 139 #[.slice (some ⟨g,0,none⟩) n cap,.func (.func fid) #[] ca] w fun e w' =>
  (∃m,e=.returned (.slice (some ⟨g,0,none⟩) m cap)/\o5 w' base (.slice (some ⟨g,0,none⟩) m cap) (l.filter fun x=>!p x))/\Ext Q w':=by
 have l8:=h.ints.l8;have o0:=h.ints.o0;have RP:∀(args:Array Value) (w:World),(callFunc fid args).run Tryz.prog w=.ok (.enter fid args) w:=hg;have HL:=ae h.ints.hlen;have HO:=ae h;have RS:=h.EL.1;have HBG:=ae RS;have HF:=ae hf;have HX:=ae hX;have V5:=ae (iz (w:=w) h.ints hg (hf.ext hX));clear h hf hX hg RS;by_cases E:∃i,l.findIdx? p=some i
 ·obtain⟨i0,Ts⟩:=E;have U:bX p l=(i0:Int):=by unfold bX;rw[Ts]
  obtain⟨Ar,J,K⟩:=List.findIdx?_eq_some_iff_getElem.1 Ts;have wq:i0<n:=by rw[<-HL.o];exact Ar
  have zF:(l.take i0).all (fun x=>!p x)=true:=by
   rw[List.all_eq_true];intro x hx;obtain⟨j,hj,rfl⟩:=List.mem_take_iff_getElem.1 hx;have:=K j e7
   simpa using this
  have L2:=ae (Kept.start (p:=p) Ar zF (by rw[List.getElem?_eq_getElem Ar];exact J));rw[U]at V5;clear U Ts J K zF Ar;go_enter Tryz.func139,Tryz.ntmps139
  go_wp2_with fail;refine V5.o.mono ?_;rintro e w1 ⟨rfl,G⟩;have vh:=ae (HX.o.trans G);have vw:=ae (HO.o.ext G);have hne:((i0:Int) == -1)=false:=by simp
  clear G;go_wp2_with fail
  go_loopg [5,6] n (fun gk ii jj wr=>∃(i j:Nat) (M:j7),b7 (gk+j=n+i0+1)/\ii=.int .i64 (i:Int)/\jj=.int .i64 (j:Int)/\b7 (Kept p l M i j)/\b7 (i<j)/\b7 (o5 wr base (.slice (some ⟨g,0,none⟩) n cap) M)/\b7 (Ext Q wr))
  case atStart=>exact⟨i0,i0+1,l,ae e7,rfl,by simp,L2,ae e7,vw,vh⟩
  case round =>
   obtain⟨g1,o6⟩:=b9 gk;subst o6;obtain⟨I,o4⟩:=b9 wr;subst o4;obtain⟨i,j,M,HJ,rfl,rfl,Z,HIJ,HM,wF⟩:=hrel;have Hg:=HIJ.o;by_cases hlt:j<n
   ·have hc:=HM.o.EL.2.2.2 j hlt;rw[Z.o.hi j (Nat.le_refl _)]at hc;obtain⟨x,hx⟩:=b9 (l[j]?.getD 0);rw[<-hx]at hc;have Av:=ae hx;have HC:=ae (HF.o x I wF.o);have yW:j<l.length:=by rw[HL.o];exact hlt
    clear hx;cases hpx:p x
    ·have V4:=ae (Z.o.keep yW (by rw[<-Av.o];exact hpx));rw[<-Av.o]at V4;rw[hpx]at HC;clear hpx;go_wp2_with fail;refine HC.o.mono ?_;rintro e w2 ⟨rfl,vL⟩;have W:=ae (HM.o.ext vL);have hci:=W.o.EL.2.2.2 i e7;have CX:=W.o.EL.2.2.1;have hfi:=CX i;have Cc:=ae (W.o.set i x);have vk:=ae ((wF.o.trans vL).store i (Nat.le_trans hb HBG.o) (.int .i64 x));clear vL CX;go_wp2_with fail
     go_roundg (g1-1)
     case measure=>have:=HJ.o;omega
     case rel=>exact⟨i+1,j+1,_,ae (j1 HJ.o),by go_num,by go_num,V4,ae e7,Cc,vk⟩
    ·have V4:=ae (Z.o.drop yW (by rw[<-Av.o];exact hpx));rw[hpx]at HC;clear hpx;go_wp2_with fail;refine HC.o.mono ?_;rintro e w2 ⟨rfl,vL⟩;have W:=ae (HM.o.ext vL);have vk:=ae (wF.o.trans vL);clear vL;go_wp2_with fail
     go_roundg (g1-1)
     case measure=>have:=HJ.o;omega
     case rel=>exact⟨i,j+1,_,ae (j1 HJ.o),rfl,by go_num,V4,ae e7,W,vk⟩
   ·have A6:j=n:=by have:=Z.o.jl;have:=HL.o;omega
    subst A6;have VE:∀ty,(Builtin.clear_ #[30] ty #[.slice (some ⟨g,i,none⟩) (j-i) (cap-i)]).run Tryz.prog I=.ok (.tuple #[]) (I.setCells g i (List.replicate (j-i) (.int .i64 0))):=fun ty=>by
     refine Lib.run_clear_slice I _ 3 ty _ Tryz.underlying30 IG rfl rfl g i _ _ e7 (fun k hk=>?_) (fun k hk=>?_)
     ·rw[HM.o.EL.2.2.2 (i+k) e7];rfl
     ·exact HM.o.EL.2.2.1 _
    obtain⟨M',O,ON⟩:=o5.zeros (w:=I) (j-i) (o:=i) HM.o
    have HT:=ae (show M'.take i=l.filter fun x=>!p x by
     rw[ON,Z.o.lo,List.take_of_length_le (by rw[HL.o];exact Nat.le_refl _)])
    have ZS:=ae O;have HXF:=ae (ie g (Nat.le_trans hb HBG.o) (List.replicate (j-i) (.int .i64 0)) i wF.o);clear ON O;go_wp2_with fail;go_ret;exact⟨⟨i,rfl,by rw[<-HT.o];exact ZS.o.Sj e7⟩,HXF.o⟩
 ·have U:bX p l=-1:=by
   unfold bX;cases hq:l.findIdx? p with
   | none=>rfl
   | some i=>exact absurd ⟨i,hq⟩ E
  have L6:=ae (show l.filter (fun x=>!p x)=l by
   rw[List.filter_eq_self];intro x hx;cases hq:l.findIdx? p with
   | none=>have:=List.findIdx?_eq_none_iff.1 hq x hx;simpa using this
   | some i=>exact absurd ⟨i,hq⟩ E)
  rw[U]at V5;clear U E;go_enter Tryz.func139,Tryz.ntmps139
  go_wp2_with fail;refine V5.o.mono ?_;rintro e w1 ⟨rfl,G⟩;have vh:=ae (HX.o.trans G);have vw:=ae (HO.o.ext G);clear G;go_wp2_with fail;go_ret;exact⟨⟨n,rfl,by rw[L6.o];exact vw.o⟩,vh.o⟩
def Pf(P:Program)(w:World)(fid:FuncId)(ca:Array Value)(p:Int×Int×Int->Bool):Prop :=
 ∀x y z (w1:World),Ext w w1->Calls P fid (#[.agg #[.int .i64 x,.int .i64 y,.int .i64 z]]++ca) w1 fun e w2=>e=.returned (.bool (p (x,y,z)))/\Ext w1 w2
theorem mE{cap:Nat}{p:Int×Int×Int->Bool}(h:xV w a n cap l)(hg:IsGo Tryz.prog fid)(hf:Pf Tryz.prog w fid ca p):
 Calls Tryz.prog 204 #[.slice a n cap,.func (.func fid) #[] ca] w fun e w'=>e=.returned (.int .i64 (bX p l))/\Ext w w':=by
 have hn:=h.l8;have hm:=h.o0;have RP:∀(args:Array Value) (w:World),(callFunc fid args).run Tryz.prog w=.ok (.enter fid args) w:=hg;have HL:=ae h.hlen;have HI:=ae h;have HF:=ae hf;clear h hf hg;go_enter Tryz.func204,Tryz.ntmps204
 go_wp2_with fail
 go_loopg [8] n (fun gk ii wr=>∃k:Nat,b7 (gk+k=n)/\ii=.int .i64 (k:Int)/\b7 ((l.take k).all (fun x=>!p x)=true)/\b7 (Ext w wr))
 case atStart=>exact⟨0,ae e7,rfl,ae rfl,ae (Ext.refl _)⟩
 case round =>
  obtain⟨g1,K⟩:=b9 gk;subst K;obtain⟨J,O⟩:=b9 wr;subst O;obtain⟨k,I,rfl,HA,HX⟩:=hrel;by_cases hlt:k<n
  ·obtain⟨b,off,x,y,z,rfl,E,wK,xB,zC⟩:=(HI.o.ext HX.o).at hlt;have HC:=ae (HF.o x y z J HX.o);have Ab:k<l.length:=by rw[HL.o];exact hlt
   cases hb:p (x,y,z)
   all_goals rw[hb]at HC
   ·have HT:=ae (show(l.take (k+1)).all (fun x=>!p x)=true by rw[gw Ab,List.all_append,HA.o,E];simp[hb]);clear hb E;go_wp2_with fail;refine HC.o.mono ?_;rintro e w2 ⟨rfl,vL⟩;have G:=ae (HX.o.trans vL);clear vL;go_wp2_with fail
    go_roundg (g1-1)
    case measure=>have:=I.o;omega
    case rel=>exact⟨k+1,ae (j1 I.o),by go_num,HT,G⟩
   ·have HT:=ae (show bX p l=(k:Int)from eH (d:=(0,0,0)) Ab HA.o (by rw[E];exact hb));clear hb E;go_wp2_with fail;refine HC.o.mono ?_;rintro e w2 ⟨rfl,vL⟩;have G:=ae (HX.o.trans vL);clear vL;go_wp2_with fail;go_ret;exact⟨aD HT.o.symm,G.o⟩
  ·have HT:=ae (show l.take k=l from List.take_of_length_le (by rw[HL.o];have:=I.o;omega));go_wp2_with fail;go_ret;exact⟨aD (by rw[dL];have:=HA.o;rwa [HT.o]at this),HX.o⟩
theorem jW{cap:Nat}{p:Int×Int×Int->Bool}(h:xV w a n cap l)(hg:IsGo Tryz.prog fid)(hf:Pf Tryz.prog w fid ca p):
 Calls Tryz.prog 141 #[.slice a n cap,.func (.func fid) #[] ca] w fun e w'=>e=.returned (.bool (l.any p))/\Ext w w':=by
 have HC:=ae (mE h hg hf);go_enter Tryz.func141,Tryz.ntmps141
 go_wp2_with fail;refine HC.o.mono ?_;rintro e w2 ⟨rfl,vL⟩
 go_wp2
 all_goals go_ret;refine⟨ai ?_,vL⟩;rw[<-gh]
theorem tN:IsGo Tryz.prog 142:=isGo Tryz.func142 e9 e9
theorem KB:IsGo Tryz.prog 140:=isGo Tryz.func140 e9 e9
theorem JD(x y z s:Int){b:Nat}(hc:w.cell? ⟨b,0,none⟩=some (.int .i64 s)):
 Calls Tryz.prog 142 #[.agg #[.int .i64 x,.int .i64 y,.int .i64 z],.pointer (some ⟨b,0,none⟩)] w fun e w'=>e=.returned (.bool (x == s))/\Ext w w':=by
 have HX:=ae (Ext.alloc w (.cells #[.int .i64 x,.int .i64 y,.int .i64 z] 83));have hb:b<w.heap.size:=World.block_lt_of_cell? _ _ hc;cases hq:(x == s)
 all_goals
  go_enter Tryz.func142,Tryz.ntmps142
  go_wp2_with fail;go_ret;exact⟨ai rfl,HX.o⟩
theorem MJ(s:Int){b:Nat}{cap:Nat}(hc:w.cell? ⟨b,0,none⟩=some (.slice a n cap))(h:xV w a n cap L):
 Calls Tryz.prog 140 #[.int .i64 s,.pointer (some ⟨b,0,none⟩)] w fun e w'=>e=.returned (.bool (xT L s))/\Ext w w':=by
 have HX:=ae (Ext.alloc w (.cells #[.int .i64 s] 3));have hb:b<w.heap.size:=World.block_lt_of_cell? _ _ hc;have HC:=ae (jW (ca:=#[.pointer (some ⟨w.heap.size,0,none⟩)]) (p:=fun f=>f.1 == s) (h.ext HX.o) tN (fun x y z w1 hx=>JD x y z s (hx.j9 e8)));clear h;go_enter Tryz.func140,Tryz.ntmps140
 go_wp2_with fail;refine HC.o.mono ?_;rintro e w2 ⟨rfl,vL⟩;have E:=ae (HX.o.trans vL);clear vL;go_wp2_with fail;go_ret;exact⟨rfl,E.o⟩
theorem gU(x:Int)(a:j6)(n cap:Nat)(h4:3<=n)(hn:n<=1000){G:j6}{fn:Nat}(h:xV w G fn zw L):
 Calls Tryz.prog 81 #[pair x a n cap,.slice G fn zw] w fun e w'=>(∃v,e=.returned v/\o5 w' w.heap.size v (aN L (n-2)))/\Ext w w':=by
 obtain⟨W,hW⟩:=b9 ((w.alloc (.cells #[.int .i64 x,.slice a n cap] 32)).alloc (.cells #[.slice G fn zw] 42));have K:=ae (show W.heap.size=w.heap.size+2 by rw[hW];simp);have uV:=ae (show Ext w W by rw[hW];exact(Ext.alloc _ _).trans (Ext.alloc _ _));have I:=ae (show W.cell? ⟨w.heap.size+1,0,none⟩=some (.slice G fn zw)by rw[hW];simp);have HF:=ae (h.ext uV.o);have HA:=ae (show Eo Tryz.prog W 140 #[.pointer (some ⟨w.heap.size+1,0,none⟩)] (xT L)from fun s w1 hx=>MJ s (hx.j9 I.o) (HF.o.ext hx));have HC:=ae (jt (w:=W) 1 ((n:Int)-2) (n-2) e7 e7 e7 e7);rw[hW]at HC;clear h;go_enter Tryz.func81,Tryz.ntmps81
 go_wp2_with fail;refine HC.o.mono ?_;rw[<-hW];clear hW;rintro e w1 ⟨⟨v,rfl,E⟩,vO⟩;obtain⟨a1,m,c1,rfl,hm⟩:=E.var;have Cu:0<m:=by have:=hm.out;rw[pX]at this;omega
 obtain⟨g,rfl,_,_,_⟩:=E.block Cu;have HD:=ae (pe vO (Nat.le_refl _) E Cu KB HA.o);clear E hm vO;go_wp2_with fail;refine HD.o.mono ?_;rintro e w2 ⟨⟨m2,rfl,J⟩,vL⟩;have wG:=ae J;have O:=ae vL;clear J vL;go_wp2_with fail;go_ret;exact⟨⟨_,rfl,wG.o.mono (by rw[K.o];omega)⟩,uV.o.trans O.o⟩
def C6(s:Nat):Nat:=(List.range 5).countP fun k=>bit (s:Int) k
theorem rE(s:Nat):C6 s<=5:=by unfold C6;exact Nat.le_trans List.countP_le_length e8
theorem ou(s:Nat)(hs:s<32)(w:World):Calls Tryz.prog 187 #[.int .u64 (s:Int)] w fun e w'=>e=.returned (.int .i64 (C6 s))/\w=w':=by
 go_enter Tryz.func187,Tryz.ntmps187
 go_wp2
 go_ret;refine⟨aD ?_,rfl⟩;clear w
 revert s
 decide +kernel
theorem qK(s:Nat)(hs:s<32)(w:World):Calls Tryz.prog 122 #[.int .u64 (s:Int)] w fun e w'=>e=.returned (.int .i64 (C6 s))/\w=w':=by
 go_enter Tryz.func122,Tryz.ntmps122
 go_wp2_with (first|(go_at_call 187;refine(ou s hs _).mono ?_;rintro e w' ⟨rfl,rfl⟩));go_ret;exact⟨rfl,rfl⟩
theorem sP:∀s:Fin 32,∀k:Fin 5,bit ((s.val:Nat):Int) k.val=false->bits .or .i64 ((s.val:Nat):Int) (2^k.val)=((s.val:Nat):Int)+2^k.val:=by decide +kernel
theorem or_bit{s:Nat}(hs:s<32)(hk:k<5)(h:bit (s:Int) k=false):bits .or .i64 (s:Int) (2^k)=(s:Int)+2^k:=sP ⟨s,hs⟩ ⟨k,hk⟩ h
theorem uR:∀n:Fin 6,∀s:Fin 32,∀k:Fin 5,s.val<cN n.val->k.val<n.val->bit ((s.val:Nat):Int) k.val=false->s.val+2^k.val<cN n.val:=by decide +kernel
theorem Oc{s:Nat}(hn:n<=5)(hs:s<cN n)(hk:k<n)(h:bit (s:Int) k=false):s+2^k<cN n :=
 uR ⟨n,by omega⟩ ⟨s,by have:=cW n hn;omega⟩ ⟨k,by omega⟩ hs hk h
theorem tv(s:Int)(k:Nat)(h:0<=s)(h':s<=9223372036854775807):(bits BinOp.and IntKind.i64 (s/2^k) 1 == 0)=!bit s k:=by
 have h1:=ms s k h;rw[qX _ h1.1 e7];unfold bit;have:s/2^k % 2=0∨s/2^k % 2=1:=by omega
 rcases this with h|h<;>simp[h]
theorem sM(k:Nat)(h:k<=5):IntKind.i64.wrap ((2:Int)^k)=2^k:=by
 have:=eR k;have:=fz k h;rw[IntKind.wrap_i64];omega
def Bd(wt:Nat->Int)(V:j7)(k:Nat):Nat->Int
 | 0=>0
 | m+1=>Bd wt V k m+(if bit (m:Int) k=true then 0 else wt (C6 m)*(V[m+2^k]?.getD 0-V[m]?.getD 0))
def NG(wt:Nat->Int)(V:j7)(d:Int)(k:Nat):j8:=(az (Bd wt V k V.length) d).1
def CH(wt:Nat->Int)(V:j7)(d:Int)(m:Nat):j4:=(List.range m).map (NG wt V d)
theorem mR(wt:Nat->Int)(V:j7)(d:Int):CH wt V d 0=[]:=rfl
theorem mQ(wt:Nat->Int)(V:j7)(d:Int)(m:Nat):CH wt V d (m+1)=CH wt V d m++[NG wt V d m]:=by simp[CH,List.range_succ]
theorem kw(wt:Nat->Int)(V:j7)(d:Int)(m:Nat):(CH wt V d m).length=m:=by simp[CH]
theorem ek{V:j7}(E:∀x∈V,-500<=x/\x<=500)(k:Nat):-500<=V[k]?.getD 0/\V[k]?.getD 0<=500:=by
 by_cases h:k<V.length
 ·have:=E _ (List.getElem_mem h);simpa[h]using this
 ·simp[List.getElem?_eq_none (by omega:V.length<=k)]
theorem mj{x y:Int}(h1:-1000<=x)(h2:x<=1000)(h3:-1000<=y)(h4:y<=1000):-1000000<=x*y/\x*y<=1000000:=by
 have h:(x*y).natAbs<=1000*1000:=by rw[Int.natAbs_mul];exact Nat.mul_le_mul e7 e7
 omega
theorem mo{wt:Nat->Int}{V:j7}(E:∀x∈V,-500<=x/\x<=500)(hw:∀i,-1000<=wt i/\wt i<=1000)(k:Nat):∀m:Nat,-(1000000*m:Int)<=Bd wt V k m/\Bd wt V k m<=1000000*m
 | 0=>by simp[Bd]
 | m+1=>by
   have ih:=mo E hw k m;unfold Bd;have h1:=ek E (m+2^k);have h2:=ek E m;have h3:=hw (C6 m);have h4:=mj h3.1 h3.2 (y:=V[m+2^k]?.getD 0-V[m]?.getD 0) e7 e7
   split<;>omega
theorem sL{m cap:Nat}{V:j7}{wt:Nat->Int}{d:Int}(h:Ints w a m cap V)(h1:1<=n)(h5:n<=5)(hm:m=cN n)(hV:∀x∈V,-500<=x/\x<=500)(hw:∀i,-1000<=wt i/\wt i<=1000)
 (hg:IsGo Tryz.prog fid) (hf:li Tryz.prog w fid ca 6 wt) :
 Calls Tryz.prog 65 #[pair n a m cap,.func (.func fid) #[] ca,.int .i64 d] w fun e w'=>(∃v,e=.returned v/\l9 w' w.heap.size v (CH wt V d n))/\Ext w w':=by
 have hN:=cW n h5;have RP:∀(args:Array Value) (w:World),(callFunc fid args).run Tryz.prog w=.ok (.enter fid args) w:=hg;have hi:=h.alloc (.cells #[.int .i64 (n:Int),.slice a m cap] 32);have HX:=ae (Ext.alloc w (.cells #[.int .i64 (n:Int),.slice a m cap] 32));have HL:=ae h.hlen;have HI:=ae hi;have HF:=ae (hf.ext HX.o);have HO:=ae (l9.made (w.alloc (.cells #[.int .i64 (n:Int),.slice a m cap] 32)) (w.heap.size+1) e8);have o0:=h.o0;have l8:=h.l8;have HV:=ae hV;have HW:=ae hw;have Fl:=ae hm;have PZ:m<=32:=by omega
 clear h hi hf hg hV hw hm hN;go_enter Tryz.func65,Tryz.ntmps65
 go_wp2
 go_loopw [7,17] (fun o i wr=>∃(k:Nat) (a1:j6) (I p1:Nat),k<=n/\i=.int .i64 (k:Int)/\o=.slice a1 I p1/\b7 (l9 wr (w.heap.size+1) (.slice a1 I p1) (CH wt V d k))/\b7 (Ext (w.alloc (.cells #[.int .i64 (n:Int),.slice a m cap] 32)) wr)) (fun _ i _=>n-(intOf i).toNat)
 case atStart=>exact⟨0,_,_,_,Nat.zero_le _,rfl,rfl,ae (by rw[mR];simpa using HO.o),ae (Ext.alloc _ _)⟩
 case round =>
  obtain⟨k,a1,I,p1,hk,rfl,rfl,vw,vh⟩:=hrel;have c0:wr.cell? ⟨w.heap.size,0,none⟩=some (.int .i64 (n:Int)):=vh.o.j9 e8;have c1:wr.cell? ⟨w.heap.size,1,none⟩=some (.slice a m cap):=vh.o.j9 e8;by_cases hlt:k<n
  ·have N1:=ae (HI.o.ext vh.o);have V8:=ae (HF.o.ext vh.o);have hp:=eR k;have J5:=fz k e7
   go_wp2
   go_loopw [9,23] (fun t i wr2=>∃(j:Nat),j<=m/\i=.int .i64 (j:Int)/\t=.int .i64 (Bd wt V k j)/\b7 (Ext wr wr2)) (fun _ i _=>m-(intOf i).toNat)
   case atStart=>exact⟨0,Nat.zero_le _,rfl,rfl,ae (Ext.refl _)⟩
   case round =>
    obtain⟨j,hj,rfl,ht,E⟩:=hrel;obtain⟨T,O⟩:=b9 (Bd wt V k j);have TR:=mo HV.o HW.o k j;rw[<-O]at ht TR;subst ht;have HT:=ae O;clear O;have Q:=E.o.j9 c1;by_cases wm:j<m
    ·have FH:=ae (N1.o.ext E.o);obtain⟨b,off,he,hc⟩:=FH.o.at wm;have JP:=ek HV.o j;obtain⟨v1,xG⟩:=b9 (V[j]?.getD 0);rw[<-xG]at hc JP;have Zk:=ae xG;clear xG;subst he;have hb:=tv (j:Int) k e7 e7;cases hbit:bit (j:Int) k
     ·rw[hbit]at hb;have HB:=ae hbit;have hu:=Oc h5 (by rw[<-Fl.o];exact wm) hlt hbit;have J7:=or_bit (s:=j) (k:=k) e7 e7 hbit;obtain⟨u,J⟩:∃u:Nat,u=j+2^k:=⟨_,rfl⟩;have SM:(j:Int)+2^k=(u:Int):=by rw[J];simp
      have WM:u<m:=by rw[Fl.o,J];exact hu
      rw[SM]at J7;obtain⟨b2,Wp,Ty,zC⟩:=FH.o.at WM;simp only[Option.some.injEq,Addr.mk.injEq,and_true]at Ty;obtain⟨rfl,rfl⟩:=Ty;have SK:=ek HV.o u;obtain⟨v2,Z⟩:=b9 (V[u]?.getD 0);rw[<-Z]at zC SK;have Uh:=ae Z;have HU:=ae J;clear Z hbit hu SM J;have K:=HW.o (C6 j);obtain⟨W,U⟩:=b9 (wt (C6 j));rw[<-U]at K;have VS:=ae U;clear U;have hmul:=mj K.1 K.2 (y:=v2-v1) e7 e7;obtain⟨X,hX⟩:=b9 (W*(v2-v1));rw[<-hX]at hmul;have Av:=ae hX;have e1:IntKind.i64.wrap (v2-v1)=v2-v1:=by rw[IntKind.wrap_i64];omega
      have e2:IntKind.i64.wrap (W*(v2-v1))=X:=by rw[<-hX,IntKind.wrap_i64];omega
      have e3:IntKind.i64.wrap (T+X)=T+X:=by rw[IntKind.wrap_i64];omega
      have e4:=sM k e7;have Zs:=ae (show IntKind.u64.wrap (j:Int)=(j:Int)by simp only[IntKind.wrap,IntKind.bits,IntKind.signed];simp;omega);have k7:Ext wr wr.drew:=Ext.drew wr;have SL:u<=32:=by omega
      clear hX hmul K JP SK TR hp J5
      go_wp2
      go_region_held3 (fun w'=>w'.cell? ⟨w.heap.size,1,none⟩=some (.slice (some ⟨b,off,none⟩) m cap)/\w'.cell? ⟨b,off+u,none⟩=some (.int .i64 v2)/\Ext wr w')
       (exact⟨k7.j9 Q,k7.j9 zC,k7⟩)
       (first
         | (go_at_call 122;rw[Zs.o];refine(qK j e7 _).mono ?_;rintro e w' ⟨rfl,rfl⟩)
         | (refine(V8.o (C6 j) _ (j1 (rE j)) (E.o.trans k7)).mono ?_;rw[<-VS.o];rintro e w5 ⟨rfl,wX⟩;have k7:=k7.trans wX))
      go_wp2
      go_roundw
      case rel=>exact⟨j+1,by omega,by go_num,by unfold Bd;rw[HB.o,<-HT.o,<-VS.o,<-HU.o,<-Uh.o,<-Zk.o,<-Av.o];simp[go_sem,e3],ae (E.o.trans k7)⟩
      case measure=>simp[intOf];omega
     ·rw[hbit]at hb;have HB:=ae hbit;clear hbit
      go_wp2
      go_roundw
      case rel=>exact⟨j+1,by omega,by go_num,by unfold Bd;rw[HB.o,<-HT.o];simp,E⟩
      case measure=>simp[intOf];omega
    ·have Cw:j=m:=by omega
     subst Cw;obtain⟨p,q,ok,vK⟩:∃p q ok,az T d=((p,q),ok):=⟨_,_,_,rfl⟩;have wI:=ae vK;have Gc:=ae (vh.o.trans E.o);have wG:=ae (vw.o.ext E.o);have AN:w.heap.size+1<=wr.heap.size:=by have:=Gc.o.size;simpa using this
     clear vK;go_wp2_with fail;refine(ix _ _ _).mono ?_;rw[wI.o];rintro e w3 ⟨rfl,G⟩;have X3:=ae (Gc.o.trans G);have vi:=ae (wG.o.ext G);have BP:=G.size;clear G
     go_wp2_with (first
      | (at_builtin;refine aI rfl _ _ rfl (w.heap.size+1) (.slice a1 I p1) _ rfl ((vi.o.ext (Ext.alloc _ _)).ext (Ext.alloc _ _)) _ 1 _ [(p,q)] rfl (Rats.one' _ _ _ _ _ e8) (by rw[kw];omega) (by simp;omega) ?_;intro v2 w4 ho hg l7;obtain⟨a2,n2,c2,rfl,ED⟩:=ho.var;have wV:=ae ho;have GW:=ae hg;clear ho hg l7))
     go_roundw
     case rel =>
      refine⟨k+1,a2,n2,c2,by omega,by go_num,rfl,ae ?_,ae ?_⟩
      ·rw[mQ,NG,HL.o,<-HT.o,wI.o];exact wV.o
      ·exact ak (X3.o.trans ((Ext.alloc _ _).trans (Ext.alloc _ _))) GW.o (fun j hj=>by have:=(vi.o.lt j hj).1;simpa using this)
     case measure=>simp[intOf];omega
  ·go_wp2
   go_ret;have vZ:k=n:=by omega
   subst vZ;exact⟨⟨_,rfl,vw.o.mono e7⟩,HX.o.trans vh.o⟩
end Go.Proofs.YtdadoignenffgaaGreatDoor
