import Derived.Test.YtalmoolkhcgmmaaGreatNqAltG27
import Derived.Test.YtalmoolkhcgmmaaGreatNqAltG22
import Derived.Test.YtalmoolkhcgmmaaGreatNqAltG24
import Derived.Test.YtalmoolkhcgmmaaGreatNqAltG21
set_option linter.unusedVariables false
set_option linter.unusedSimpArgs false
namespace Go.Proofs.YtalmoolkhcgmmaaGreat
variable{cost:j6}{r c:Nat}
set_option maxHeartbeats 16000000
set_option maxRecDepth 100000
open Go.RowKit
section
variable{w:World}{ra:j8}{rc:Nat}{ba:j8}{bc:Nat}{t:Tb}{n m:Nat}{T0:Nat->Nat->Rat}
theorem Np{t:Tb}{cost r:j6}{k:Nat}(h:cO t cost k=some r):cO t cost (k+1)=zo r (wR (cost[(t.basis[k]?.getD 0).toNat]?.getD (0,0))) (t.row k):=by
 simp only[cO];rw[h];rfl
theorem wl(h:EZ w ra m rc ba m bc t)(hT:xY n m T0 t)(hn:n<=1000)(hm:m<=1000){ka:j8}{I kc:Nat}{cost:j6}(hk:r8 w ka I kc cost)(yQ:I=n+m)(hv:yz cost=true):
 Calls Tryz.prog 156 #[EB ra m rc ba m bc (n:Int),.slice ka I kc] w fun e w'=>(∃v,e=.returned (.tuple #[v,.bool (bS t cost).isSome])/\l8 w' w.heap.size v ((bS t cost).getD []))/\Ext w w':=by
 have wI:=Ext.alloc w (cg ra m rc ba m bc (n:Int));have wM:=ae wI;have H:=ae (h.ext wI);have J:=ae (show(w.alloc (cg ra m rc ba m bc (n:Int))).heap[w.heap.size]?=some (.cells #[.slice ra m rc,.slice ba m bc,.int .i64 (n:Int)] 108 (0,0))from ak _ _ _ rfl);have OP:=ae (hk.ext wI);have yC:=h.rows.o3;have AX:=h.rows.l9;have zN:=h.basis.o3;have zx:=h.basis.l9;have BH:=hk.o3;have k7:=hk.l9;have HT:=ae hT;have Ji:=ae hk.hlen;have zD:=ae yQ
 have HE:=ae (show bS t cost=cO t cost m by
  unfold bS jm
  rw[if_pos (by rw[hT.ok hn,hT.q8,hT.len,hk.hlen,hv,yQ];simp),hT.len])
 have yD:=ae (fun j (hj:j<I)=>show o5 (cost[j]?.getD (0,0))=true by
  have:j<cost.length:=by rw[hk.hlen];exact hj
  rw[List.getElem?_eq_getElem this];exact(List.all_eq_true.1 hv) _ (List.getElem_mem this))
 have HG:=ae (jR H.o hT hn hm);have Fw:=ae hv;have CF:(I:Int)=(n:Int)+(m:Int):=by omega
 have Ce:IntKind.i64.wrap ((n:Int)+(m:Int))=(I:Int):=by rw[IntKind.wrap_i64];omega
 have MA:((I:Int) != (I:Int))=false:=by simp
 have HSUM:=ae CF;clear h hT wI hk yQ hv CF;go_enter Tryz.func156,Tryz.ntmps156
 go_upto_region 1 with fail;obtain⟨W,hW⟩:=b8 (w.alloc (cg ra m rc ba m bc (n:Int)));rw[<-hW]at wM H J HG OP;rw[<-hW];clear hW;have p0:=au J.o;have p1:=aH J.o;have p2:=aI J.o;go_wp2_with fail;refine HG.o.mono ?_;rintro e w1 ⟨rfl,hx⟩;have X1:=ae hx;clear hx p0 p1 p2;have p0:=au (X1.o.blk J.o);have p2:=aI (X1.o.blk J.o);have Zh:=ae (mb (OP.o.ext X1.o) (j4 zD.o));go_wp2_with fail;refine Zh.o.mono ?_;rintro e w2 ⟨⟨v2,rfl,zY⟩,hx⟩;obtain⟨a2,n2,c2,rfl,Fa⟩:=zY.var;have X2:=ae (X1.o.trans hx);have yE:=ae zY;have Cu:=X1.o.size;have Ml:=hx.size;clear zY hx p0 p2 Ce;go_wp2_with fail;refine(cl 0 _).mono ?_;rintro e w3 ⟨rfl,hx⟩;have X3:=ae (X2.o.trans hx);have xp:=ae (yE.o.ext hx);have CY:=hx.size;clear hx
 go_wp2_with (first
  | (at_builtin;refine aG rfl _ _ rfl w1.heap.size (.slice a2 n2 c2) _ rfl (xp.o.ext (Ext.alloc _ _)) _ 1 _ [(0,1)] rfl (r8.one' _ _ _ _ _ e7) (by rw[Ji.o];have:=zD.o;omega) (by simp;omega) ?_;intro v5 w5 ho hg l7;have X5:=ae (al (X3.o.trans (Ext.alloc _ _)) hg (fun j hj=>Nat.le_trans Cu (xp.o.lt j hj).1));obtain⟨a5,n5,p5,rfl,A9⟩:=ho.var;have xL:=ae ho;clear ho hg l7))
 have HAL:=ae (ik (OP.o.ext X5.o));rw[Fw.o]at HAL;refine HAL.o.mono ?_;rintro e w6 ⟨rfl,hx⟩;have X6:=ae (X5.o.trans hx);have BU:=ae (xL.o.ext hx);clear hx;go_wp2_with fail
 go_loopg [6,7,8] m (fun gk oo fl ii wr=>∃(k:Nat) (f:Bool) (a1:j8) (n1 p1:Nat) (r:j6),b7 (gk+k=m)/\ii=.int .i64 (k:Int)/\oo=.slice a1 n1 p1/\fl=.bool f/\b7 (cO t cost k=if f=true then some r else none)/\b7 (l8 wr W.heap.size (.slice a1 n1 p1) r)/\b7 (Ext W wr))
 case atStart=>exact⟨0,true,_,_,_,_,ae b9,rfl,rfl,rfl,ae rfl,ae (BU.o.mono Cu),X6⟩
 case round =>
  obtain⟨g1,r7⟩:=b8 gk;subst r7;obtain⟨O,o6⟩:=b8 wr;subst o6;obtain⟨k,f,a1,n1,q1,r,HK,rfl,rfl,rfl,HC,HO,HX⟩:=hrel;have Rj:=HX.o.size;have p0:=au (HX.o.blk J.o);by_cases hlt:k<m
  ·cases f
   ·have HN:=ae (show bS t cost=none by rw[HE.o];exact mD HC.o b9);go_wp2_with fail
    go_ret2
    exact⟨⟨_,eZ (by rw[HN.o];rfl),by rw[HN.o];exact l8.made _ _ (j4 wM.o.size)⟩,wM.o.trans (HX.o.trans (Ext.alloc _ _))⟩
   ·have Gg:=ae (show cO t cost k=some r from HC.o);have p1:=aH (HX.o.blk J.o);obtain⟨U,u,ya,yn,yc,Bt,y9,o9⟩:=(H.o.ext HX.o).rows.at hlt;subst Bt;obtain⟨eb,Z,B2,yT⟩:=(H.o.ext HX.o).basis.at hlt;subst B2;obtain⟨b,hb⟩:∃b:Nat,t.basis[k]?.getD 0=b:=by
     have:=HT.o.Dk _ (List.getElem_mem (l:=t.basis) (n:=k) (by rw[HT.o.zP];exact hlt));exact⟨(t.basis[k]?.getD 0).toNat,by rw[List.getElem?_eq_getElem (by rw[HT.o.zP];exact hlt)];simp;omega⟩
    have Df:b<I:=by
     have h1:=HT.o.Dk _ (List.getElem_mem (l:=t.basis) (n:=k) (by rw[HT.o.zP];exact hlt));rw[List.getElem?_eq_getElem (by rw[HT.o.zP];exact hlt),Option.getD_some]at hb;rw[hb]at h1;have:=zD.o;omega
    rw[hb]at yT;obtain⟨cb,CR,c1,G,RC,R,y5,yq⟩:=(OP.o.ext HX.o).at Df;subst RC;have CO:=aQ (yD.o b Df);rw[R]at CO;have A7:IntKind.i64.wrap (-c1)=-c1:=by rw[IntKind.wrap_i64];simp only at CO;omega
    have HCG:=ae (show cO t cost (k+1)=zo r (-c1,G) (t.row k)by rw[Np Gg.o,hb,Int.toNat_natCast,R];rfl);have B6:=ae (kh Gg.o);have Bj:n1<=1048576:=by have h1:=HO.o.wK.hlen;rw[B6.o,Ji.o]at h1;have:=zD.o;omega
    have OF:=ae (fun(wz:World) (hz:Ext O wz)=>lw (k1:=-c1) (k2:=G) (HO.o.ext hz).wK (show r8 wz ya yn yc (t.row k)from o9.ext hz) Bj);obtain⟨sv,Hx⟩:=b8 (zo r (-c1,G) (t.row k));have En:=ae (show cO t cost (k+1)=sv by rw[HCG.o,Hx]);simp only[<-Hx]at OF;have FF:(0:Int)<=(k:Int):=by omega
    have hk1':(k:Int)<(m:Int):=by omega
    have Ii:(0:Int)<=(b:Int):=by omega
    have Ih:(b:Int)<(I:Int):=by omega
    clear o9 CO R Hx hb;go_upto_region 8 with fail;have Tl:Ext O O.drew:=Ext.drew O;have k7:=Tl;clear Tl;have k8:=ae (fun(w':World) (h:Ext O w')=>(⟨h.k6 p0,h.k6 p1,h.k6 y9,h.k6 yT,h.k6 y5,h.k6 yq,h⟩:w'.cell? ⟨w.heap.size,0,none⟩=some (.slice (some ⟨U,u,none⟩) m rc)/\w'.cell? ⟨w.heap.size,1,none⟩=some (.slice (some ⟨eb,Z,none⟩) m bc)/\w'.cell? ⟨U,u+k,none⟩=some (.slice ya yn yc)/\w'.cell? ⟨eb,Z+k,none⟩=some (.int .i64 (b:Int))/\w'.cell? ⟨cb,CR+b*2,none⟩=some (.int .i64 c1)/\w'.cell? ⟨cb,CR+b*2+1,none⟩=some (.int .i64 G)/\Ext O w'));refine wp_region_held_drew (S:=(fun w'=>w'.cell? ⟨w.heap.size,0,none⟩=some (.slice (some ⟨U,u,none⟩) m rc)/\w'.cell? ⟨w.heap.size,1,none⟩=some (.slice (some ⟨eb,Z,none⟩) m bc)/\w'.cell? ⟨U,u+k,none⟩=some (.slice ya yn yc)/\w'.cell? ⟨eb,Z+k,none⟩=some (.int .i64 (b:Int))/\w'.cell? ⟨cb,CR+b*2,none⟩=some (.int .i64 c1)/\w'.cell? ⟨cb,CR+b*2+1,none⟩=some (.int .i64 G)/\Ext O w')) e8 ?_ (fun k9=>?_)
    ·exact k8.o _ k7
    refine tk 0 ?_;refine tk 1 ?_;refine tk 2 ?_;refine tk 3 ?_;refine tk 4 ?_;refine tk 5 ?_;refine tk 6 ?_;refine tk 7 ?_;refine tk 8 ?_;refine tk 9 ?_;refine tk 10 ?_;refine tk 11 ?_;refine tk 12 ?_;refine tk 13 ?_;refine tk 14 ?_;refine tk 15 ?_;refine tk 16 ?_;refine tk 17 ?_;refine tk 18 ?_;refine tk 19 ?_;refine tk 20 ?_;refine tk 21 ?_;refine tk 22 ?_;refine tk 23 ?_;refine tk 24 ?_;refine tk 25 ?_;refine rd (i:=26) (h:=fun K hK=>?_);go_simp
    (go_at_call 175;refine(OF.o _ k7).mono ?_;rintro e w3 ⟨⟨v3,rfl,zS⟩,wS⟩;have J4:=k7.size;have k7:=k7.trans wS;obtain⟨a3,n3,c3,rfl,R7⟩:=zS.var)
    go_wp2_with fail;refine hK.out _ _ ?_ (fun k9=>?_)
    ·exact k8.o _ k7
    clear hK K
    try simp only[Act.put,sA,sB,sC]
    refine tk 27 ?_;refine tk 28 ?_;refine tk 29 ?_;refine tk 30 ?_;refine tk 31 ?_;refine wpAnyH_done e8 ?_ _;have xZ:=ae (HX.o.trans k7);have yW:=ae (zS.mono (Nat.le_trans Rj J4));clear k7 zS p0 p1 y9 yT y5 yq A7;go_wp2_with fail
    go_roundg (g1-1)
    case measure=>have:=HK.o;omega
    case rel=>exact⟨k+1,sv.isSome,a3,n3,c3,sv.getD [],ae (j4 HK.o),by go_num,rfl,rfl,ae (by rw[En.o];cases sv<;>rfl),yW,xZ⟩
  ·have Bf:m=k:=by have:=HK.o;omega
   subst Bf;cases f
   ·have HN:=ae (show bS t cost=none by rw[HE.o];exact HC.o);go_wp2_with fail
    go_ret2
    exact⟨⟨_,eZ (by rw[HN.o];rfl),by rw[HN.o];exact l8.made _ _ (j4 wM.o.size)⟩,wM.o.trans (HX.o.trans (Ext.alloc _ _))⟩
   ·have HN:=ae (show bS t cost=some r by rw[HE.o];exact HC.o);go_wp2_with fail
    go_ret2
    exact⟨⟨_,eZ (by rw[HN.o];rfl),by rw[HN.o];exact HO.o.mono (j4 wM.o.size)⟩,wM.o.trans HX.o⟩
theorem ru(h:EZ w ra m rc ba m bc t)(hT:xY n m T0 t)(hn:n<=1000)(hm:m<=1000):
 Calls Tryz.prog 130 #[EB ra m rc ba m bc (n:Int)] w fun e w'=>(∃v,e=.returned v/\l8 w' w.heap.size v (xV t))/\Ext w w':=by
 have wI:=Ext.alloc w (cg ra m rc ba m bc (n:Int));have wM:=ae wI;have H:=ae (h.ext wI);have I:=ae (show(w.alloc (cg ra m rc ba m bc (n:Int))).heap[w.heap.size]?=some (.cells #[.slice ra m rc,.slice ba m bc,.int .i64 (n:Int)] 108 (0,0))from ak _ _ _ rfl);obtain⟨W,hW⟩:=b8 (w.alloc (cg ra m rc ba m bc (n:Int)));have DT:W.heap.size=w.heap.size+1:=by rw[hW];simp
 have Bc:=ae DT;have yC:=h.rows.o3;have AX:=h.rows.l9;have zN:=h.basis.o3;have zx:=h.basis.l9;have HT:=ae hT;have Yz:=ae (show xV t=yM t m by unfold xV;rw[if_pos (hT.ok hn),hT.len]);have Hc:=ae (show yM t 0=List.replicate (n+m) (0,1)by simp only[yM];rw[hT.q8,hT.len];rfl);have Hb:=ae (fun k=>show(yM t k).length=n+m by rw[iJ,hT.q8,hT.len];simp);have HO:=ae (l8.made W (w.heap.size+1) b9);have R:=ae (Ext.alloc W (.cells #[] 46));rw[<-hW]at wM H I;rw[DT]at HO;have HG:=ae (jR (H.o.ext R.o) hT hn hm);have Ce:IntKind.i64.wrap ((n:Int)+(m:Int))=(n:Int)+(m:Int):=by rw[IntKind.wrap_i64];omega
 clear h hT wI DT;go_enter Tryz.func130,Tryz.ntmps130
 go_upto_region 1 with fail;rw[<-hW];clear hW;have DT:=Bc.o;have p0:=au (R.o.blk I.o);have p1:=aH (R.o.blk I.o);have p2:=aI (R.o.blk I.o);go_wp2_with fail;refine HG.o.mono ?_;rintro e w1 ⟨rfl,hx⟩;have X1:=ae (R.o.trans hx);have UA:=ae (HO.o.ext hx);clear hx p0 p1 p2;go_wp2_with fail
 go_loopg [3,4] (n+m) (fun gk oo ii wr=>∃(k:Nat) (a1:j8) (n1 p1:Nat),b7 (gk+k=n+m)/\ii=.int .i64 (k:Int)/\oo=.slice a1 n1 p1/\b7 (l8 wr (w.heap.size+1) (.slice a1 n1 p1) (List.replicate k (0,1)))/\b7 (Ext W wr))
 case atStart=>exact⟨0,_,_,_,ae b9,rfl,rfl,UA,X1⟩
 case round =>
  obtain⟨g1,r7⟩:=b8 gk;subst r7;obtain⟨o7,o6⟩:=b8 wr;subst o6;obtain⟨k,a1,n1,U,HK,rfl,rfl,xC,HX⟩:=hrel;have p0:=au (HX.o.blk I.o);have p2:=aI (HX.o.blk I.o);have hsz:=HX.o.size;by_cases hlt:k<n+m
  ·have zR:=ae (show(List.replicate k ((0:Int),(1:Int))).length=k by simp);have PS:(k:Int)<(n:Int)+(m:Int):=by omega
   go_wp2_with fail;refine(cl 0 _).mono ?_;rintro e w3 ⟨rfl,hx⟩;have X3:=ae (HX.o.trans hx);have xp:=ae (xC.o.ext hx);have CY:=X3.o.size;clear hx p0 p2
   go_wp2_with (first
    | (at_builtin;refine aG rfl _ _ rfl (w.heap.size+1) (.slice a1 n1 U) _ rfl (xp.o.ext (Ext.alloc _ _)) _ 1 _ [(0,1)] rfl (r8.one' _ _ _ _ _ e7) (by rw[zR.o];omega) (by simp;omega) ?_;intro v5 w5 ho hg l7;have X5:=ae (al (X3.o.trans (Ext.alloc _ _)) hg (fun j hj=>by have:=(xp.o.lt j hj).1;omega));obtain⟨a5,n5,p5,rfl,A9⟩:=ho.var;have xL:=ae ho;clear ho hg l7))
   go_roundg (g1-1)
   case measure=>have:=HK.o;omega
   case rel=>exact⟨k+1,a5,n5,p5,ae (j4 HK.o),by go_num,rfl,ae (by have:=xL.o;rw[<-List.replicate_succ']at this;exact this),X5⟩
  ·have Bf:k=n+m:=by have:=HK.o;omega
   have PS:¬(k:Int)<(n:Int)+(m:Int):=by omega
   have HKM:=ae Bf;have yE:=ae (show l8 o7 (w.heap.size+1) (.slice a1 n1 U) (yM t 0)by rw[Hc.o,<-Bf];exact xC.o);clear Bf;go_wp2_with fail;clear p2 PS
   go_loopg [5] m (fun gk ii wr=>∃(k:Nat),b7 (gk+k=m)/\ii=.int .i64 (k:Int)/\b7 (l8 wr (w.heap.size+1) (.slice a1 n1 U) (yM t k))/\b7 (Ext W wr))
   case atStart=>exact⟨0,ae b9,rfl,yE,HX⟩
   case round =>
    obtain⟨g2,xK⟩:=b8 gk;subst xK;obtain⟨J,wT⟩:=b8 wr;subst wT;obtain⟨j,HJ,rfl,O,K⟩:=hrel;clear p0;have p0:=au (K.o.blk I.o);by_cases zt:j<m
    ·have p1:=aH (K.o.blk I.o);have p2:=aI (K.o.blk I.o);obtain⟨zb,xJ,ya,Z,yc,Bt,y9,o9⟩:=(H.o.ext K.o).rows.at zt;subst Bt;obtain⟨u,hu⟩:=b8 (n+m);have Dn:Z=u+1:=by rw[<-o9.hlen,hu];exact(HT.o.row j zt).1
     have Uc:=ae Dn;have xM:=o9.o3;have D1:=o9.l9;have ZC:u<=200000:=by omega
     obtain⟨yb,xB,p,q,Da,xk,Gp,Gn⟩:=o9.at (show u<Z by omega);subst Da;have yt:=ae (show t.at j u=(p,q)from xk);obtain⟨b,hb⟩:∃b:Nat,t.basis[j]?.getD 0=b:=by
      have:=HT.o.Dk _ (List.getElem_mem (l:=t.basis) (n:=j) (by rw[HT.o.zP];exact zt));exact⟨(t.basis[j]?.getD 0).toNat,by rw[List.getElem?_eq_getElem (by rw[HT.o.zP];exact zt)];simp;omega⟩
     have I3:b<n+m:=by
      have h1:=HT.o.Dk _ (List.getElem_mem (l:=t.basis) (n:=j) (by rw[HT.o.zP];exact zt));rw[List.getElem?_eq_getElem (by rw[HT.o.zP];exact zt),Option.getD_some]at hb;rw[hb]at h1;omega
     have HB:=ae hb;obtain⟨eb,xi,B2,yT⟩:=(H.o.ext K.o).basis.at zt;subst B2;rw[hb]at yT;have Bj:n1=u:=by have:=O.o.wK.hlen;rw[Hb.o]at this;omega
     subst Bj;obtain⟨G,hG,DF,CL,JG⟩:=O.o.block (k:=b) b9;subst hG;obtain⟨G',I7,Z6,Z5,AL,BO,Ka,CK⟩:=O.o.wK.at (show b<n1 by omega);simp only[Option.some.injEq,Addr.mk.injEq,and_true]at AL;obtain⟨rfl,rfl⟩:=AL;rw[Nat.zero_add]at Ka CK;have Rc:IntKind.i64.wrap ((n:Int)+(m:Int))=(n1:Int):=by rw[IntKind.wrap_i64];omega
     have IN:(n1:Int)<(Z:Int):=by have:=Uc.o;omega
     have Od:(0:Int)<=(n1:Int):=by omega
     have Ii:(0:Int)<=(b:Int):=by omega
     have Ih:(b:Int)<(n1:Int):=by omega
     have Oj:(0:Int)<=(j:Int):=by omega
     have Ru:(j:Int)<(m:Int):=by omega
     have HU:=ae hu;clear xk o9 Dn hb BO hu Ce;go_upto_region 11 with fail
     go_still_tail 20,e8
     have xL:=ae (show l8 ((J.drew.setCell ⟨G,b*2,none⟩ (.int .i64 p)).setCell ⟨G,b*2+1,none⟩ (.int .i64 q)) (w.heap.size+1) (.slice (some ⟨G,0,none⟩) n1 U) (yM t (j+1))by
      have h1:=(O.o.ext (Ext.drew J)).set (k:=b) (by rw[Hb.o,<-HU.o];omega) p q;have h2:yM t (j+1)=(yM t j).set b (p,q):=by
       simp only[yM];rw[HB.o,Int.toNat_natCast,HT.o.q8,HT.o.len,Int.toNat_natCast,<-HU.o,yt.o]
      rw[h2];exact h1)
     have TM:W.heap.size<=G:=by have:=Bc.o;omega
     have Br:=ae (((K.o.trans (Ext.drew J)).setCell (p:=⟨G,b*2,none⟩) TM (.int .i64 p)).setCell (p:=⟨G,b*2+1,none⟩) TM (.int .i64 q));clear Rc;go_wp2_with fail
     go_roundg (g2-1)
     case measure=>have:=HJ.o;omega
     case rel=>exact⟨j+1,ae (j4 HJ.o),by go_num,xL,Br⟩
    ·have DE:m=j:=by have:=HJ.o;omega
     subst DE;go_wp2_with fail;go_ret;exact⟨⟨_,rfl,by rw[Yz.o];exact O.o.mono b9⟩,wM.o.trans K.o⟩
end
section
variable{w:World}{a:j8}{na ca:Nat}{b:j8}{nb cb:Nat}{c:j8}{nc cc:Nat}{A:j7}{B:j9}{C:j6}
theorem ou(h:Cz w a na ca b nb cb c nc cc A B C)(ok:xF A B C=true):
 Calls Tryz.prog 81 #[C8 a na ca b nb cb c nc cc] w fun e w'=>(∃U vb Z,e=.returned (.agg #[U,vb,.int .i64 (nc:Int)])/\yK w' w.heap.size U vb Z (bF A B nc))/\Ext w w':=by
 obtain⟨r1,r2,r3,r4,r5,r6⟩:=cI h ok;subst r3;have wI:=(Ext.alloc w (bE a nb ca b nb cb c nc cc)).trans (Ext.alloc _ (.cells #[.slice none 0 0,.slice none 0 0,.int .i64 0] 108));obtain⟨W,hW⟩:=b8 ((w.alloc (bE a nb ca b nb cb c nc cc)).alloc (.cells #[.slice none 0 0,.slice none 0 0,.int .i64 0] 108));rw[<-hW]at wI;have wM:=ae wI;have H:=ae (h.ext wI);have HV:=ae (eg H.o);rw[ok]at HV;have yA:=ae (show W.heap[w.heap.size+1]?=some (.cells #[.slice none 0 0,.slice none 0 0,.int .i64 0] 108 (0,0))by rw[hW];exact ak _ _ _ e7);have wQ:=ae (show W.heap[w.heap.size]?=some (.cells #[.slice a nb ca,.slice b nb cb,.slice c nc cc] 52 (0,0))by rw[hW,bX _ _ _ e7];exact ak _ _ _ rfl);have Bc:=ae (show W.heap.size=w.heap.size+1+1 by rw[hW];simp);have Ke:=h.a.o3;have ES:=h.a.l9;have zN:=h.b.o3;have zx:=h.b.l9;have yq:=h.c.o3;have AZ:=h.c.l9;have BL:=ae h.a.hlen;have y4:=ae h.b.hlen;have E8:=ae r4;have Gc:=ae r5;have Et:=ae r6;clear h wI ok r4 r5 r6;go_enter Tryz.func81,Tryz.ntmps81
 go_upto_region 1 with fail;rw[<-hW];clear hW;have p0:=au wQ.o;have p1:=aH wQ.o;have p2:=aI wQ.o;go_wp2_with fail;refine HV.o.mono ?_;rintro e w1 ⟨rfl,hx⟩;have X1:=ae hx;have H1:=ae (H.o.ext hx);clear hx p0 p1 p2;have P0:=ae (au (X1.o.blk wQ.o));have P1:=ae (aH (X1.o.blk wQ.o));have P2:=ae (aI (X1.o.blk wQ.o));have p2:=P2.o;have Cu:w.heap.size+1+1<=w1.heap.size:=by have:=X1.o.size;have:=Bc.o;omega
 obtain⟨E,hE⟩:=b8 (w1.alloc (.cells #[.slice none 0 0,.slice none 0 0,.int .i64 (nc:Int)] 108));have XE:=ae (show Ext w1 E by rw[hE];exact Ext.alloc _ _)
 have Yw:=ae (show BJ E w1.heap.size w1.heap.size (.slice none 0 0) (.slice none 0 0) (nc:Int) [] [] []by
  rw[hE];exact⟨ak _ _ _ rfl,Nat.le_refl _,World.ownsRow_nil _ _ _ 1,dC.nil _ _,o8.nil _ _⟩)
 go_upto_region 4 with fail;rw[<-hE];clear hE p2;have p0:=XE.o.k6 P0.o;go_wp2_with fail
 go_loopg [4] nb (fun gk ii wr=>∃(k:Nat) (U vb:Value) (Z:List Value),b7 (gk+k=nb)/\ii=.int .i64 (k:Int)/\b7 (BJ wr w1.heap.size w1.heap.size U vb (nc:Int) Z ((List.range k).map (cn A B)) ((List.range k).map fun i=>((nc+i:Nat):Int)))/\b7 (Ext w1 wr))
 case atStart=>exact⟨0,_,_,_,ae b9,rfl,Yw,XE⟩
 case round =>
  obtain⟨g1,r7⟩:=b8 gk;subst r7;obtain⟨I,o6⟩:=b8 wr;subst o6;obtain⟨k,U,vb,Z,HK,rfl,T,HX⟩:=hrel;clear p0;have p0:=HX.o.k6 P0.o;have Rj:=HX.o.size;by_cases hlt:k<nb
  ·obtain⟨zb,xJ,ya,O,yc,Bt,y9,o9⟩:=(H1.o.ext HX.o).a.at hlt;subst Bt;obtain rfl:O=nc:=by rw[<-o9.hlen];exact E8.o k hlt
   have xM:=o9.o3;have D1:=o9.l9;obtain⟨eb,xi,B2,yT⟩:=H1.o.b.at hlt;subst B2;obtain⟨J,Df⟩:=b8 (B[k]?.getD 0);rw[<-Df]at yT;have Fc:=ae yT;have HZ0:=ae y9;have Zm:=ae Df;have zd:-5000<=J/\J<=5000:=by
    rw[Df,List.getElem?_eq_getElem (by rw[y4.o];exact hlt)];exact Et.o _ (List.getElem_mem _)
   obtain⟨hbb0,hbb1⟩:=zd;obtain⟨G,PL⟩:=b8 (ys J);have HSD:=ae PL;have Mi:(J<0/\G=-1)∨(¬J<0/\G=1):=by rw[PL];exact ei J
   have F3:-1<=G/\G<=1:=by omega
   obtain⟨hsb0,Mj⟩:=F3;have p1:=HX.o.k6 P1.o;have B3:=HX.o.k6 Fc.o;have Ay:=ae o9;clear o9 Df PL yT
   go_upto_if 29 with fail
   go_cut [5] (fun s6 wx=>s6=.int .i64 G/\I=wx)
   case first =>
    rcases Mi with⟨yP,rfl⟩|⟨yP,rfl⟩
    all_goals
     go_wp2_with fail;go_meet;exact⟨rfl,rfl⟩
   obtain⟨rfl,rfl⟩:=hcut;clear Mi;have Ft:=ae (l8.made I I.heap.size (Nat.le_refl _));go_wp2_with fail
   go_loopg [6,7] O (fun gk oo ii wr=>∃(j:Nat) (a1:j8) (n1 q1:Nat),b7 (gk+j=O)/\ii=.int .i64 (j:Int)/\oo=.slice a1 n1 q1/\b7 (l8 wr I.heap.size (.slice a1 n1 q1) (((A[k]?.getD []).take j).map fun x=>(G*x,(1:Int))))/\b7 (Ext I wr))
   case atStart=>exact⟨0,_,_,_,ae b9,rfl,rfl,Ft,ae (Ext.alloc _ _)⟩
   case round =>
    obtain⟨g2,xK⟩:=b8 gk;subst xK;obtain⟨wr2,wT⟩:=b8 wr;subst wT;obtain⟨j,a1,n1,q1,HJ,rfl,rfl,xC,xz⟩:=hrel;clear p0 p1 B3 y9;have p2:=(HX.o.trans xz.o).k6 P2.o;by_cases zt:j<O
    ·have p0:=(HX.o.trans xz.o).k6 P0.o;have y9:=xz.o.k6 HZ0.o;obtain⟨xb,Cc,Hu,wI⟩:=(Ay.o.ext xz.o).at zt;subst Hu;obtain⟨x,hx⟩:=b8 ((A[k]?.getD [])[j]?.getD 0);rw[<-hx]at wI;have OQ:=ae (show j<(A[k]?.getD []).length by rw[E8.o k hlt];exact zt);have PD:-5000<=x/\x<=5000:=by
      rw[hx,List.getElem?_eq_getElem OQ.o];exact(Gc.o k hlt).2 _ (List.getElem_mem _)
     obtain⟨hxb0,hxb1⟩:=PD;have Ds:G*x=x∨G*x=-x∨G*x=0:=by
      have:G=-1∨G=0∨G=1:=by omega
      rcases this with h1|h1|h1<;>subst h1<;>omega
     have Jz:-5000<=G*x/\G*x<=5000:=by rcases Ds with h1|h1|h1<;>rw[h1]<;>omega
     obtain⟨z,hz⟩:=b8 (G*x);have L9:wrap64 (G*x)=z:=by rw[hz];unfold wrap64;omega
     have AU:=ae (show((A[k]?.getD []).take j).map (fun x=>(G*x,(1:Int)))++[(z,1)]=((A[k]?.getD []).take (j+1)).map (fun x=>(G*x,(1:Int)))by
      rw[hz,hx];exact qR (fun x=>(G*x,(1:Int))) OQ.o)
     have zR:=ae (show(((A[k]?.getD []).take j).map (fun x=>(G*x,(1:Int)))).length=j by rw[List.length_map,List.length_take];have:=OQ.o;omega);clear hx hz Ds Jz;go_wp2_with fail;rw[L9];clear L9;refine(cl z _).mono ?_;rintro e w3 ⟨rfl,hx⟩;have X3:=ae (xz.o.trans hx);have xp:=ae (xC.o.ext hx);have CY:=X3.o.size;clear hx
     go_wp2_with (first
      | (at_builtin;refine aG rfl _ _ rfl I.heap.size (.slice a1 n1 q1) _ rfl (xp.o.ext (Ext.alloc _ _)) _ 1 _ [(z,1)] rfl (r8.one' _ _ _ _ _ e7) (by rw[zR.o];omega) (by simp;omega) ?_;intro v5 w5 ho hg l7;have X5:=ae (al (X3.o.trans (Ext.alloc _ _)) hg (fun j hj=>(xp.o.lt j hj).1));obtain⟨a5,n5,p5,rfl,A9⟩:=ho.var;have xL:=ae ho;clear ho hg l7))
     go_roundg (g2-1)
     case measure=>have:=HJ.o;omega
     case rel=>exact⟨j+1,a5,n5,p5,ae (j4 HJ.o),by go_num,rfl,ae (by rw[<-AU.o];exact xL.o),X5⟩
    ·have Ah:O=j:=by have:=HJ.o;omega
     have Bu:=ae (show l8 wr2 I.heap.size (.slice a1 n1 q1) ((A[k]?.getD []).map (fun x=>(G*x,(1:Int))))by
      have h1:=xC.o
      rw[List.take_of_length_le (by rw[E8.o k hlt];omega)]at h1;exact h1)
     have Fv:=ae (show((A[k]?.getD []).map (fun x=>(G*x,(1:Int)))).length=O by rw[List.length_map];exact E8.o k hlt);have p0:=(HX.o.trans xz.o).k6 P0.o;have HJN:=ae Ah;clear Ah;go_wp2_with fail
     go_loopg [6,8] nb (fun gk oo ii wr=>∃(i:Nat) (a1:j8) (n1 q1:Nat),b7 (gk+i=nb)/\ii=.int .i64 (i:Int)/\oo=.slice a1 n1 q1/\b7 (l8 wr I.heap.size (.slice a1 n1 q1) ((A[k]?.getD []).map (fun x=>(G*x,(1:Int)))++(List.range i).map fun i=>if i=k then((1:Int),(1:Int)) else(0,1)))/\b7 (Ext I wr))
     case atStart=>exact⟨0,_,_,_,ae b9,rfl,rfl,ae (by simpa using Bu.o),xz⟩
     case round =>
      obtain⟨g3,Dg⟩:=b8 gk;subst Dg;obtain⟨R,A0⟩:=b8 wr;subst A0;obtain⟨i,a3,n3,q3,HI,rfl,rfl,xp,xj⟩:=hrel;clear p0 p2;have p0:=(HX.o.trans xj.o).k6 P0.o;by_cases Bb:i<nb
      ·have zR:=ae (show((A[k]?.getD []).map (fun x=>(G*x,(1:Int)))++(List.range i).map fun i=>if i=k then((1:Int),(1:Int)) else(0,1)).length=O+i by rw[List.length_append,Fv.o];simp);obtain⟨un,F2⟩:∃u:Int,u=if i=k then 1 else 0:=⟨_,rfl⟩
       have AU:=ae (show(List.range i).map (fun i=>if i=k then((1:Int),(1:Int)) else(0,1))++[(un,1)]=(List.range (i+1)).map fun i=>if i=k then((1:Int),(1:Int)) else(0,1)by
        rw[<-cj,F2];congr 2;split<;>rfl)
       have DU:((i:Int) == (k:Int))=decide (i=k):=by by_cases h:i=k<;>simp[h]<;>omega
       have HUN:=ae (show wL (decide (i=k))=un by rw[F2];by_cases h:i=k<;>simp[h,wL]);have OU:=ae (fun w'=>fR (decide (i=k)) w');rw[HUN.o]at OU;clear F2;go_wp2_with (first|(go_at_call 79;refine(OU.o _).mono ?_;rintro e w2 ⟨rfl,rfl⟩));clear DU;refine(cl un _).mono ?_;rintro e w3 ⟨rfl,hx⟩;have X3:=ae (xj.o.trans hx);have yW:=ae (xp.o.ext hx);have CY:=X3.o.size;clear hx
       go_wp2_with (first
        | (at_builtin;refine aG rfl _ _ rfl I.heap.size (.slice a3 n3 q3) _ rfl (yW.o.ext (Ext.alloc _ _)) _ 1 _ [(un,1)] rfl (r8.one' _ _ _ _ _ e7) (by rw[zR.o];omega) (by simp;omega) ?_;intro v5 w5 ho hg l7;have X5:=ae (al (X3.o.trans (Ext.alloc _ _)) hg (fun j hj=>(yW.o.lt j hj).1));obtain⟨a5,n5,p5,rfl,A9⟩:=ho.var;have xL:=ae ho;clear ho hg l7))
       go_roundg (g3-1)
       case measure=>have:=HI.o;omega
       case rel=>exact⟨i+1,a5,n5,p5,ae (j4 HI.o),by go_num,rfl,ae (by have:=xL.o;rw[List.append_assoc,AU.o]at this;exact this),X5⟩
      ·have xR:i=nb:=by have:=HI.o;omega
       subst xR;obtain⟨z2,DA⟩:=b8 (G*J);have Ds:G*J=J∨G*J=-J∨G*J=0:=by
        have:G=-1∨G=0∨G=1:=by omega
        rcases this with h1|h1|h1<;>subst h1<;>omega
       have PE:IntKind.i64.wrap (G*J)=z2:=by
        rw[IntKind.wrap_i64,DA];rcases Ds with h1|h1|h1<;>rw[h1]<;>omega
       have HRE:=ae (show((A[k]?.getD []).map (fun x=>(G*x,(1:Int)))++(List.range i).map fun i=>if i=k then((1:Int),(1:Int)) else(0,1))++[(z2,1)]=cn A B k by
        unfold cn;rw[<-Zm.o,<-HSD.o,DA,BL.o,rI])
       have zR:=ae (show((A[k]?.getD []).map (fun x=>(G*x,(1:Int)))++(List.range i).map fun i=>if i=k then((1:Int),(1:Int)) else(0,1)).length=O+i by rw[List.length_append,Fv.o];simp);have yD:=ae (show Z.length=k by rw[T.o.rows.len];simp);have t0:=au T.o.box;have p1:=HX.o.k6 P1.o;have B3:=HX.o.k6 Fc.o;have FF:(0:Int)<=(k:Int):=by omega
       have BH:(k:Int)<(i:Int):=by omega
       clear DA Ds;go_upto_region 19 with fail;have Dt:Ext R R.drew:=Ext.drew R;have k7:Ext I R.drew:=xj.o.trans Dt;have k8:=ae (fun(w':World) (h:Ext I w')=>(⟨h.k6 t0,h.k6 p1,h.k6 B3,HX.o.trans h⟩:w'.cell? ⟨w1.heap.size,0,none⟩=some U/\w'.cell? ⟨w.heap.size,1,none⟩=some (.slice (some ⟨eb,xi,none⟩) i cb)/\w'.cell? ⟨eb,xi+k,none⟩=some (.int .i64 J)/\Ext w1 w'));refine du (M:=[16]) (S:=fun w'=>w'.cell? ⟨w1.heap.size,0,none⟩=some U/\w'.cell? ⟨w.heap.size,1,none⟩=some (.slice (some ⟨eb,xi,none⟩) i cb)/\w'.cell? ⟨eb,xi+k,none⟩=some (.int .i64 J)/\Ext w1 w') e8 ?_;have k9:=k8.o _ k7;refine lp 0 ?_;refine ll 1 ?_;refine lp 2 ?_;refine lp 3 ?_;refine lp 4 ?_;refine ll 5 ?_;refine lp 6 ?_;refine lp 7 ?_;refine ll 8 ?_;refine lp 9 ?_;refine bh (i:=10) (oi:=?_) ?_ ?_ ?_ (fun K hK=>?_);rotate_left
       ·simp only[gA,gB,gC];rfl
       ·kernel_rfl
       ·kernel_rfl
       go_simp;go_at_call 32;refine(cl _ _).mono ?_;rintro e w5 ⟨rfl,zh⟩;have Dt:Ext R w5:=Dt.trans zh;have k7:Ext I w5:=k7.trans zh;have A8:=k7.size;go_wp2_with fail;refine hK.out _ _ (fun _=>k8.o _ k7) ?_;have k9:=k8.o _ k7;clear hK K
       try simp only[Act.put,sA,sB,sC]
       refine bh (i:=11) (oi:=?_) ?_ ?_ ?_ (fun K hK=>?_);rotate_left
       ·simp only[gA,gB,gC];rfl
       ·kernel_rfl
       ·kernel_rfl
       go_simp;refine hK.out _ _ (fun _=>k8.o _ (k7.trans (Ext.alloc _ _))) ?_;clear hK K
       try simp only[Act.put,sA,sB,sC]
       refine bh (i:=12) (oi:=?_) ?_ ?_ ?_ (fun K hK=>?_);rotate_left
       ·simp only[gA,gB,gC];rfl
       ·kernel_rfl
       ·kernel_rfl
       refine ek _ _ j0 I.heap.size (.slice a3 n3 q3) _ j0 ((xp.o.ext Dt).ext (Ext.alloc _ _)) _ 1 _ [(z2,1)] j0 (r8.one' _ _ _ _ _ rfl) (by rw[zR.o];omega) (by simp;omega) ?_;intro v6 w6 ho hg l7;obtain⟨a6,n6,q6,rfl,Jg⟩:=ho.var;have BU:=ae ho;have Dd:Ext I w6:=al (k7.trans (Ext.alloc _ _)) hg (fun j hj=>(xp.o.lt j hj).1);have WA:=Dd.size;clear ho hg l7;refine hK.out _ _ (fun _=>k8.o _ Dd) ?_;have k9:=k8.o _ Dd;clear hK K
       try simp only[Act.put,sA,sB,sC]
       refine bh (i:=13) (oi:=?_) ?_ ?_ ?_ (fun K hK=>?_);rotate_left
       ·simp only[gA,gB,gC];rfl
       ·kernel_rfl
       ·kernel_rfl
       go_simp;refine hK.out _ _ (fun _=>k8.o _ (Dd.trans (Ext.alloc _ _))) ?_;clear hK K
       try simp only[Act.put,sA,sB,sC]
       refine bh (i:=14) (oi:=?_) ?_ ?_ ?_ (fun K hK=>?_);rotate_left
       ·simp only[gA,gB,gC];rfl
       ·kernel_rfl
       ·kernel_rfl
       refine eU _ _ j0 w1.heap.size U Z j0 ((T.o.a.ext Dd).ext (Ext.alloc _ _)) _ _ 1 j0 (by simp;rfl) rfl (by rw[yD.o];omega) (by simp;omega) ?_;intro v7 w7 ho hg l7;obtain⟨a7,n7,q7,rfl,E'⟩:=ho.var;have FR:=ae ho;have JV:=ae hg;have zH:=T.o.Ip (Dd.trans (Ext.alloc _ _)) hg;have I':=au zH;have Vo:=dh zH;have Dv:Ext w1 w7:=al ((HX.o.trans Dd).trans (Ext.alloc _ _)) hg (fun j hj=>(T.o.a.lt j hj).1);clear ho hg l7 zH;refine hK.out _ _ (fun _=>And.intro I' (And.intro (Dv.k6 P1.o) (And.intro (Dv.k6 Fc.o) Dv))) ?_;have k9:=And.intro I' (And.intro (Dv.k6 P1.o) (And.intro (Dv.k6 Fc.o) Dv));clear hK K
       try simp only[Act.put,sA,sB,sC]
       refine lp 15 ?_;refine dH (i:=16) (oi:=?_) (w':=?_) ?_ ?_ ?_ ?_ ?_ ?_ ?_;rotate_left 2
       ·simp only[gA,gB,gC];rfl
       ·kernel_rfl
       ·kernel_rfl
       ·exact of_decide_eq_true e8
       ·rfl
       ·go_simp;(try with_reducible rfl)
       try simp only[Act.put,sA,sB,sC]
       refine dL e8 ?_ _;have Gb:=ae (T.o.DW (Dd.trans (Ext.alloc _ _)) (BU.o.ext (Ext.alloc _ _)) Rj JV.o FR.o);have GM:=ae (Dv.setCell (p:=⟨w1.heap.size,0,none⟩) (Nat.le_refl _) (.slice a7 n7 q7));obtain⟨W8,Il⟩:=b8 (w7.setCell ⟨w1.heap.size,0,none⟩ (.slice a7 n7 q7));rw[<-Il]at Gb GM;go_upto_region 20 with fail;rw[<-Il];clear Il I' Vo k9;have b1:=aH Gb.o.box;have p2:=Ext.k6 GM.o P2.o;have bf:=dh Gb.o.box;have hl8:=lt_of_block Gb.o.box;have Ha:=ae (show((List.range k).map fun i=>((O+i:Nat):Int)).length=k by simp)
       go_wp2_with (first
        | (at_builtin;refine bm rfl _ _ rfl w1.heap.size vb _ rfl (Gb.o.b.ext (Ext.alloc _ _)) _ 1 _ [(O:Int)+(k:Int)] rfl (Ints.Ad _ _ _ _ e7) (by rw[Ha.o];omega) (by simp;omega) ?_;intro v9 w9 ho hg l7;obtain⟨a9,n9,q9,rfl,Kr⟩:=ho.var;have Ew:=ae ho;have UG:=ae hg;have zH:=Gb.o.Io (Ext.alloc _ _) hg;have Vp:=aH zH;have Vn:=dh zH;have Kf:Ext w1 w9:=al (Ext.trans GM.o (Ext.alloc _ _)) hg (fun j hj=>(Gb.o.b.lt j hj).1);clear ho hg l7 zH))
       have Iu:=ae (Gb.o.pushB (Ext.alloc _ _) UG.o Ew.o);have F':=ae (Kf.setCell (p:=⟨w1.heap.size,1,none⟩) (Nat.le_refl _) (.slice a9 n9 q9))
       go_roundg (g1-1)
       case measure=>have:=HK.o;omega
       case rel=>exact⟨k+1,_,_,_,ae (j4 HK.o),by go_num,ae (by
        have h1:=Iu.o;rw[HRE.o,cj]at h1;have h2:((List.range k).map fun i=>((O+i:Nat):Int))++[(O:Int)+(k:Int)]=(List.range (k+1)).map fun i=>((O+i:Nat):Int):=by
         rw[<-cj];simp
        rw[h2]at h1
        exact h1),F'⟩
  ·have xQ:nb=k:=by have:=HK.o;omega
   subst xQ;have Je:=ae (show yK I w1.heap.size U vb Z (bF A B nc)by have:=T.o.own;unfold bF;rw[BL.o];exact this);have t0:=au T.o.box;have t1:=aH T.o.box;have t2:=aI T.o.box;obtain⟨a7,n7,c7,rfl,E'⟩:=T.o.a.var;obtain⟨a8,n8,c8,rfl,FT⟩:=T.o.b.var;have xw:=X1.o.trans HX.o;have r0:=au (xw.blk yA.o);have r1:=aH (xw.blk yA.o);have r2:=aI (xw.blk yA.o);have rf:=dh (xw.blk yA.o);have XW:=ae xw;clear xw;go_wp2_with fail;refine bodyPost_ret (v:=.agg #[.slice a7 n7 c7,.slice a8 n8 c8,.int .i64 (nc:Int)]) (by simp[results,Tryz.results81,go_sem,r0,r1,r2,rf]) rfl ⟨⟨_,_,Z,rfl,?_⟩,(wM.o.trans XW.o).A' (Nat.le_succ _) _ _ _⟩;exact(Je.o.yS fun k hk=>cZ _ _ _ _ _ _ b9).mono b9
end
section
variable{w:World}{ra:j8}{rc:Nat}{ba:j8}{bc:Nat}{t:Tb}{n m:Nat}{T0:Nat->Nat->Rat}
theorem K6(h:EZ w ra m rc ba m bc t)(hm:m<=1000)(zm:t.q8=n)(Cg:∀i,i<m->(t.row i).length<=1048576):
 Calls Tryz.prog 189 #[EB ra m rc ba m bc (n:Int)] w fun e w'=>(∃u vb vs,e=.returned (.agg #[u,vb,.int .i64 (n:Int)])/\yK w' w.heap.size u vb vs t)/\Ext w w':=by
 have wI:=(Ext.alloc w (cg ra m rc ba m bc (n:Int))).trans (Ext.alloc _ (.cells #[.slice none 0 0,.slice none 0 0,.int .i64 0] 108));obtain⟨W,hW⟩:=b8 ((w.alloc (cg ra m rc ba m bc (n:Int))).alloc (.cells #[.slice none 0 0,.slice none 0 0,.int .i64 0] 108));rw[<-hW]at wI;have wM:=ae wI;have H:=ae (h.ext wI);have yC:=h.rows.o3;have AX:=h.rows.l9;have zy:=ae (show t.rows.length=m from h.rows.hlen);have y4:=ae (show t.basis.length=m from h.basis.hlen);have Cr:=ae zm;have zT:=ae Cg;have wQ:=ae (show W.heap[w.heap.size]?=some (.cells #[.slice ra m rc,.slice ba m bc,.int .i64 (n:Int)] 108 (0,0))by rw[hW,bX _ _ _ e7];exact ak _ _ _ rfl);have yA:=ae (show W.heap[w.heap.size+1]?=some (.cells #[.slice none 0 0,.slice none 0 0,.int .i64 0] 108 (0,0))by rw[hW];exact ak _ _ _ e7);have Bc:=ae (show W.heap.size=w.heap.size+1+1 by rw[hW];simp);have p1:=aH wQ.o;have p2:=aI wQ.o;clear h wI Cg zm;go_enter Tryz.func189,Tryz.ntmps189
 go_upto_region 1 with fail;rw[<-hW];clear hW
 go_cut [3] (fun s wx=>∃(g:Nat) (a3:j8) (n3 c3:Nat),s=.pointer (some ⟨g,0,none⟩)/\b7 (BJ wx W.heap.size g (.slice none 0 0) (.slice a3 n3 c3) (n:Int) [] [] t.basis)/\b7 (Ext W wx))
 case first =>
  have k7:Ext W W.drew:=Ext.drew W;have k8:=ae (fun(w':World) (h:Ext W w')=>(⟨h.k6 p1,h.k6 p2,h⟩:(fun w'=>w'.cell? ⟨w.heap.size,1,none⟩=some (.slice ba m bc)/\w'.cell? ⟨w.heap.size,2,none⟩=some (.int .i64 (n:Int))/\Ext W w') w'));refine wp_region_held_drew (S:=(fun w'=>w'.cell? ⟨w.heap.size,1,none⟩=some (.slice ba m bc)/\w'.cell? ⟨w.heap.size,2,none⟩=some (.int .i64 (n:Int))/\Ext W w')) e8 ?_ (fun I=>?_)
  ·exact k8.o _ k7
  refine tk 1 ?_;refine tk 2 ?_;refine tk 4 ?_;refine tk 5 ?_;refine wpAnyH_ready (rs:=[0,7]) e8 e7 ?_;refine AllReadyH.cons (o:=?_) ?_ (fun K hK=>?_) ?_;rotate_left
  ·simp only[gA,gB,gC];rfl
  ·
   have k7:Ext W (W.alloc (.cells #[] 3)).drew:=(Ext.alloc _ _).trans (Ext.drew _);have O:=ae ((o8.yG W W.heap.size W.heap.size rfl (Nat.le_refl _)).ext (Ext.drew _));go_simp;refine hK.out _ _ ?_ (fun I=>?_)
   ·exact k8.o _ k7
   clear hK K
   try simp only[Act.put,sA,sB,sC]
   obtain⟨gi,Tm⟩:=b8 W.heap.size;obtain⟨J,RF⟩:=b8 ((W.alloc (.cells #[] 3)).drew);rw[<-RF]at k7 O;rw[show(Value.slice (some ⟨W.heap.size,0,none⟩) 0 0)=Value.slice (some ⟨gi,0,none⟩) 0 0 by rw[Tm]]at O;rw[<-RF,<-Tm];clear RF Tm I;refine wpAnyH_ready (rs:=[3,7]) e8 e7 ?_;refine AllReadyH.cons (o:=?_) ?_ (fun K hK=>?_) ?_;rotate_left
   ·simp only[gA,gB,gC];rfl
   ·
    refine ci _ j0 ?_;refine co _ _ j0 W.heap.size (.slice (some ⟨gi,0,none⟩) 0 0) [] j0 O.o ba m bc t.basis j0 (H.o.ext k7).basis (by simp;omega) k7.size ?_;intro v3 w3 zS MH G0;obtain⟨a3,n3,c3,rfl,R7⟩:=zS.var;have xp:=ae (show o8 w3 W.heap.size (.slice a3 n3 c3) t.basis by simpa using zS);have wS:=Ext.grown k7 MH (fun j hj=>(O.o.lt j hj).1);go_wp2_with fail;refine hK.out _ _ ?_ (fun I=>?_)
    ·exact k8.o _ wS
    clear hK K
    try simp only[Act.put,sA,sB,sC]
    have k7:=wS;refine tk 6 ?_;have MF:=k7.size;have k7:=k7.trans (Ext.alloc w3 (.cells #[.slice none 0 0,.slice none 0 0,.int .i64 0] 108));have G:=ae (show(w3.alloc (.cells #[.slice none 0 0,.slice none 0 0,.int .i64 0] 108)).heap[w3.heap.size]?=some (.cells #[.slice none 0 0,.slice none 0 0,.int .i64 0] 108 (0,0))from heap_alloc_new w3 _);refine rd (i:=7) (h:=fun K hK=>?_);go_simp;refine hK.out _ _ ?_ (fun I=>?_)
    ·exact k8.o _ k7
    clear hK K
    try simp only[Act.put,sA,sB,sC]
    obtain⟨gt,R⟩:=b8 w3.heap.size;obtain⟨W9,Z⟩:=b8 (w3.alloc (.cells #[.slice none 0 0,.slice none 0 0,.int .i64 0] 108));have Y7:=ae (show Ext w3 W9 by rw[Z];exact Ext.alloc _ _);rw[<-Z]at k7;rw[<-Z,<-R]at G;rw[<-Z,<-R];have G5:W.heap.size<=gt:=by rw[R];exact MF
    clear Z R I MF;have xp:=ae (xp.o.ext Y7.o);have BQ:=au G.o;have BP:=aH G.o;have Yk:=aI G.o;have Yj:=dh G.o;refine rd (i:=8) (h:=fun K hK=>?_);go_simp;refine hK.out _ _ ?_ (fun I=>?_)
    ·exact k8.o _ (Ext.A' k7 G5 _ _ _)
    clear hK K
    try simp only[Act.put,sA,sB,sC]
    refine wpAnyH_done e8 ?_ _;go_wp2_with fail;go_meet;exact⟨gt,a3,n3,c3,rfl,ae (BJ.O' G.o xp.o (Nat.le_refl _) G5),ae (Ext.A' k7 G5 _ _ _)⟩
   refine AllReadyH.cons (o:=?_) ?_ (fun K hK=>?_) AllReadyH.nil;rotate_left
   ·simp only[gA,gB,gC];rfl
   have MF:=k7.size;have k7:=k7.trans (Ext.alloc J (.cells #[.slice none 0 0,.slice none 0 0,.int .i64 0] 108));have G:=ae (show(J.alloc (.cells #[.slice none 0 0,.slice none 0 0,.int .i64 0] 108)).heap[J.heap.size]?=some (.cells #[.slice none 0 0,.slice none 0 0,.int .i64 0] 108 (0,0))from heap_alloc_new J _);go_simp;refine hK.out _ _ ?_ (fun I=>?_)
   ·exact k8.o _ k7
   clear hK K
   try simp only[Act.put,sA,sB,sC]
   obtain⟨gt,R⟩:=b8 J.heap.size;obtain⟨W9,Z⟩:=b8 (J.alloc (.cells #[.slice none 0 0,.slice none 0 0,.int .i64 0] 108));have Y7:=ae (show Ext J W9 by rw[Z];exact Ext.alloc _ _);rw[<-Z]at k7;rw[<-Z,<-R]at G;rw[<-Z,<-R];have G5:W.heap.size<=gt:=by rw[R];exact MF
   clear Z R I MF;have O:=ae (O.o.ext Y7.o);refine rd (i:=3) (h:=fun K hK=>?_);refine ci _ j0 ?_;refine co _ _ j0 W.heap.size (.slice (some ⟨gi,0,none⟩) 0 0) [] j0 O.o ba m bc t.basis j0 (H.o.ext k7).basis (by simp;omega) k7.size ?_;intro v3 w3 zS MH G0;obtain⟨a3,n3,c3,rfl,R7⟩:=zS.var;have xp:=ae (show o8 w3 W.heap.size (.slice a3 n3 c3) t.basis by simpa using zS);have wS:=Ext.grown k7 MH (fun j hj=>(O.o.lt j hj).1);have G:=ae ((MH.block gt (lt_of_block G.o) (av O.o G.o (by decide))).trans G.o);go_wp2_with fail;refine hK.out _ _ ?_ (fun I=>?_)
   ·exact k8.o _ wS
   clear hK K
   try simp only[Act.put,sA,sB,sC]
   have k7:=wS;refine tk 6 ?_;have BQ:=au G.o;have BP:=aH G.o;have Yk:=aI G.o;have Yj:=dh G.o;refine rd (i:=8) (h:=fun K hK=>?_);go_simp;refine hK.out _ _ ?_ (fun I=>?_)
   ·exact k8.o _ (Ext.A' k7 G5 _ _ _)
   clear hK K
   try simp only[Act.put,sA,sB,sC]
   refine wpAnyH_done e8 ?_ _;go_wp2_with fail;go_meet;exact⟨gt,a3,n3,c3,rfl,ae (BJ.O' G.o xp.o (Nat.le_refl _) G5),ae (Ext.A' k7 G5 _ _ _)⟩
  refine AllReadyH.cons (o:=?_) ?_ (fun K hK=>?_) AllReadyH.nil;rotate_left
  ·simp only[gA,gB,gC];rfl
  have k7:Ext W (W.alloc (.cells #[.slice none 0 0,.slice none 0 0,.int .i64 0] 108)).drew:=(Ext.alloc _ _).trans (Ext.drew _);have G:=ae (show(W.alloc (.cells #[.slice none 0 0,.slice none 0 0,.int .i64 0] 108)).drew.heap[W.heap.size]?=some (.cells #[.slice none 0 0,.slice none 0 0,.int .i64 0] 108 (0,0))from heap_alloc_new W _);go_simp;refine hK.out _ _ ?_ (fun I=>?_)
  ·exact k8.o _ k7
  clear hK K
  try simp only[Act.put,sA,sB,sC]
  obtain⟨gt,R⟩:=b8 W.heap.size;obtain⟨J,RF⟩:=b8 ((W.alloc (.cells #[.slice none 0 0,.slice none 0 0,.int .i64 0] 108)).drew);rw[<-RF]at k7;rw[<-RF,<-R]at G;rw[<-RF,<-R];have G5:W.heap.size<=gt:=Nat.le_of_eq R.symm;clear RF R I;have O:=ae (o8.yG J W.heap.size J.heap.size rfl k7.size);have k7:=k7.trans (Ext.alloc J (.cells #[] 3));refine rd (i:=0) (h:=fun K hK=>?_);go_simp;refine hK.out _ _ ?_ (fun I=>?_)
  ·exact k8.o _ k7
  clear hK K
  try simp only[Act.put,sA,sB,sC]
  obtain⟨gi,Tm⟩:=b8 J.heap.size;obtain⟨W2,Kg⟩:=b8 (J.alloc (.cells #[] 3));rw[<-Kg]at k7 O;rw[show(Value.slice (some ⟨J.heap.size,0,none⟩) 0 0)=Value.slice (some ⟨gi,0,none⟩) 0 0 by rw[Tm]]at O;have G:=ae (show W2.heap[gt]?=some (.cells #[.slice none 0 0,.slice none 0 0,.int .i64 0] 108 (0,0))by rw[Kg];exact(Ext.alloc J (.cells #[] 3)).blk G.o);rw[<-Kg,<-Tm];clear Kg Tm I;refine rd (i:=3) (h:=fun K hK=>?_);refine ci _ j0 ?_;refine co _ _ j0 W.heap.size (.slice (some ⟨gi,0,none⟩) 0 0) [] j0 O.o ba m bc t.basis j0 (H.o.ext k7).basis (by simp;omega) k7.size ?_;intro v3 w3 zS MH G0;obtain⟨a3,n3,c3,rfl,R7⟩:=zS.var;have xp:=ae (show o8 w3 W.heap.size (.slice a3 n3 c3) t.basis by simpa using zS);have wS:=Ext.grown k7 MH (fun j hj=>(O.o.lt j hj).1);have G:=ae ((MH.block gt (lt_of_block G.o) (av O.o G.o (by decide))).trans G.o);go_wp2_with fail;refine hK.out _ _ ?_ (fun I=>?_)
  ·exact k8.o _ wS
  clear hK K
  try simp only[Act.put,sA,sB,sC]
  have k7:=wS;refine tk 6 ?_;have BQ:=au G.o;have BP:=aH G.o;have Yk:=aI G.o;have Yj:=dh G.o;refine rd (i:=8) (h:=fun K hK=>?_);go_simp;refine hK.out _ _ ?_ (fun I=>?_)
  ·exact k8.o _ (Ext.A' k7 G5 _ _ _)
  clear hK K
  try simp only[Act.put,sA,sB,sC]
  refine wpAnyH_done e8 ?_ _;go_wp2_with fail;go_meet;exact⟨gt,a3,n3,c3,rfl,ae (BJ.O' G.o xp.o (Nat.le_refl _) G5),ae (Ext.A' k7 G5 _ _ _)⟩
 obtain⟨g,a3,n3,c3,rfl,HT,xz⟩:=hcut;clear p1 p2;go_wp2_with fail
 go_loopg [4] m (fun gk ii wr=>∃(k:Nat) (u:Value) (vs:List Value),b7 (gk+k=m)/\ii=.int .i64 (k:Int)/\b7 (BJ wr W.heap.size g u (.slice a3 n3 c3) (n:Int) vs (t.rows.take k) t.basis)/\b7 (Ext W wr))
 case atStart=>exact⟨0,_,_,ae b9,rfl,HT,xz⟩
 case round =>
  obtain⟨g1,r7⟩:=b8 gk;subst r7;obtain⟨o7,o6⟩:=b8 wr;subst o6;obtain⟨k,u,vs,HK,rfl,T,HX⟩:=hrel;have p0:=au (HX.o.blk wQ.o);by_cases hlt:k<m
  ·obtain⟨zb,xJ,za,zn,zc,Bt,y9,o9⟩:=(H.o.ext HX.o).rows.at hlt;subst Bt;have Js:zn<=1048576:=by rw[<-o9.hlen];exact zT.o k hlt
   have Ay:=ae o9;have t0:=au T.o.box;have D':=T.o.lt;have S7:=HX.o.size;have yD:=ae (show vs.length=k by rw[T.o.rows.len,List.length_take];have h2:=zy.o;omega);have FF:(0:Int)<=(k:Int):=by omega
   have BH:(k:Int)<(m:Int):=by omega
   have P0:=ae p0;obtain⟨zb',KA,za',UT,zc',D0,L1,WH⟩:=H.o.rows.at hlt;simp only[Option.some.injEq,Addr.mk.injEq,and_true]at D0;obtain⟨rfl,rfl⟩:=D0;have SL:=y9.symm.trans (HX.o.k6 L1);simp only[Option.some.injEq,Value.slice.injEq]at SL;obtain⟨rfl,rfl,rfl⟩:=SL;have Hzz:=ae (fun(w':World) (hx:Ext W w')=>hx.k6 L1);clear WH L1;clear o9;go_upto_region 5 with fail;have U:Ext o7 o7.drew:=Ext.drew o7;have k8:=ae (fun(w':World) (h:Ext o7 w')=>(⟨h.k6 t0,h.k6 p0,h.k6 y9,HX.o.trans h⟩:w'.cell? ⟨g,0,none⟩=some u/\w'.cell? ⟨w.heap.size,0,none⟩=some (.slice (some ⟨zb,xJ,none⟩) m rc)/\w'.cell? ⟨zb,xJ+k,none⟩=some (.slice za zn zc)/\Ext W w'));refine du (M:=[11]) (S:=fun w'=>w'.cell? ⟨g,0,none⟩=some u/\w'.cell? ⟨w.heap.size,0,none⟩=some (.slice (some ⟨zb,xJ,none⟩) m rc)/\w'.cell? ⟨zb,xJ+k,none⟩=some (.slice za zn zc)/\Ext W w') e8 ?_;have I:=k8.o _ U;refine lp 0 ?_;refine ll 1 ?_;refine lp 2 ?_;refine ll 3 ?_;refine lp 4 ?_;refine lp 5 ?_;refine ll 6 ?_;refine bh (i:=7) (oi:=?_) ?_ ?_ ?_ (fun K hK=>?_);rotate_left
   ·simp only[gA,gB,gC];rfl
   ·kernel_rfl
   ·kernel_rfl
   go_simp;go_at_call 84;refine(mb (Ay.o.ext U) b9).mono ?_;rintro e w5 ⟨⟨v5,rfl,FE⟩,zh⟩;have Ep:=ae U.size;have U:Ext o7 w5:=U.trans zh;obtain⟨a5,n5,c5,rfl,A9⟩:=FE.var;have xL:=ae (show l8 w5 o7.heap.size (.slice a5 n5 c5) _ from FE.mono Ep.o);have A8:=U.size;clear FE;go_wp2_with fail;refine hK.out _ _ (fun _=>k8.o _ U) ?_;have I:=k8.o _ U;clear hK K
   try simp only[Act.put,sA,sB,sC]
   refine bh (i:=8) (oi:=?_) ?_ ?_ ?_ (fun K hK=>?_);rotate_left
   ·simp only[gA,gB,gC];rfl
   ·kernel_rfl
   ·kernel_rfl
   go_simp;refine hK.out _ _ (fun _=>k8.o _ (U.trans (Ext.alloc _ _))) ?_;clear hK K
   try simp only[Act.put,sA,sB,sC]
   refine bh (i:=9) (oi:=?_) ?_ ?_ ?_ (fun K hK=>?_);rotate_left
   ·simp only[gA,gB,gC];rfl
   ·kernel_rfl
   ·kernel_rfl
   refine eU _ _ j0 W.heap.size u vs j0 ((T.o.a.ext U).ext (Ext.alloc _ _)) _ _ 1 j0 (by simp;rfl) rfl (by rw[yD.o];omega) (by simp;omega) ?_;intro v7 w7 ho hg l7;obtain⟨a7,n7,q7,rfl,E'⟩:=ho.var;have FR:=ae ho;have JV:=ae hg;have zH:=T.o.Ip (U.trans (Ext.alloc _ _)) hg;have I':=au zH;have Vo:=dh zH;have Dv:Ext W w7:=al ((HX.o.trans U).trans (Ext.alloc _ _)) hg (fun j hj=>(T.o.a.lt j hj).1);have hZ7:=ae (show w7.cell? ⟨zb,xJ+k,none⟩=some (.slice za zn zc)from Hzz.o _ Dv);clear ho hg l7 zH;refine hK.out _ _ (fun _=>And.intro I' (And.intro (Ext.k6 Dv (au wQ.o)) (And.intro hZ7.out Dv))) ?_;have I:=And.intro I' (And.intro (Ext.k6 Dv (au wQ.o)) (And.intro hZ7.out Dv));clear hK K
   try simp only[Act.put,sA,sB,sC]
   refine lp 10 ?_;refine dH (i:=11) (oi:=?_) (w':=?_) ?_ ?_ ?_ ?_ ?_ ?_ ?_;rotate_left 2
   ·simp only[gA,gB,gC];rfl
   ·kernel_rfl
   ·kernel_rfl
   ·exact of_decide_eq_true e8
   ·rfl
   ·go_simp;(try with_reducible rfl)
   try simp only[Act.put,sA,sB,sC]
   refine dL e8 ?_ _;have Je:=ae (T.o.DW (U.trans (Ext.alloc _ _)) (xL.o.ext (Ext.alloc _ _)) S7 JV.o FR.o);have F':=ae (Dv.setCell (p:=⟨g,0,none⟩) T.o.hg (.slice a7 n7 q7));go_wp2_with fail
   go_roundg (g1-1)
   case measure=>have:=HK.o;omega
   case rel=>exact⟨k+1,_,_,ae (j4 HK.o),by go_num,ae (by have:=Je.o;rw[<-fz (by have h2:=zy.o;omega)]at this;exact this),F'⟩
  ·have xQ:m=k:=by have:=HK.o;omega
   subst xQ;have OB:=ae (show t.rows.take m=t.rows from List.take_of_length_le (Nat.le_of_eq zy.o))
   have Je:=ae (show yK o7 W.heap.size u (.slice a3 n3 c3) vs t by
    have h1:=T.o.own
    rw[OB.o,<-Cr.o]at h1;exact h1)
   have t0:=au T.o.box;have t1:=aH T.o.box;have t2:=aI T.o.box;obtain⟨a7,n7,c7,rfl,E'⟩:=T.o.a.var;have q0:=HX.o.blk yA.o;have r0:=au q0;have r1:=aH q0;have r2:=aI q0;have rf:=dh q0;have Rb:=Bc.o;have S7:=HX.o.size;clear q0;go_wp2_with fail;refine bodyPost_ret (v:=.agg #[.slice a7 n7 c7,.slice a3 n3 c3,.int .i64 (n:Int)]) (by simp[results,Tryz.results189,go_sem,r0,r1,r2,rf]) rfl ⟨⟨_,_,vs,rfl,?_⟩,?_⟩
   ·exact(Je.o.yS fun k hk=>cZ _ _ _ _ _ _ b9).mono b9
   ·exact(wM.o.trans HX.o).A' (Nat.le_succ _) _ _ _
end
theorem uR(a:k5)(q:Int):(yH a (0,q)).2=false:=by
 unfold yH
 split
 ·unfold aL;rw[if_pos (Or.inl e7)]
 ·rfl
section
variable{w:World}{ra:j8}{rc:Nat}{ba:j8}{bc:Nat}{t:Tb}{n m:Nat}{T0:Nat->Nat->Rat}
theorem xY.args(h:xY n m T0 t)(hn:n<=1000){r c:Nat}(hr:r<m)(hc:c<n+m):dN t (r:Int) (c:Int)=true:=by
 unfold dN;rw[h.ok hn,h.q8,h.len];unfold wJ;simp;omega
theorem uq(h:xY n m T0 t)(hn:n<=1000){r c:Nat}(hr:r<m)(hc:c<n+m){q:Int}(hp:t.at r c=(0,q)):bo t (r:Int) (c:Int)=none:=by
 rw[jL (h.args hn hr hc)];refine jK ?_;unfold Bo;rw[(h.row r hr).1];refine nh (k:=1) ?_ b9;simp only[runT,Option.bind_some];unfold DI;rw[hp,uR]
 rfl
theorem oq(h:EZ w ra m rc ba m bc t)(hT:xY n m T0 t)(hn:n<=1000)(hm:m<=1000){r c:Nat}(hr:r<m)(hc:c<n):
 Calls Tryz.prog 177 #[EB ra m rc ba m bc (n:Int),.int .i64 (r:Int),.int .i64 (c:Int)] w fun e w'=>JJ w' w.heap.size e (dF t (r:Int) (c:Int)) (bo t (r:Int) (c:Int)).isSome/\Ext w w':=by
 have wI:=(Ext.alloc w (cg ra m rc ba m bc (n:Int))).trans (Ext.alloc _ (.cells #[.slice none 0 0,.slice none 0 0,.int .i64 0] 108));obtain⟨W,hW⟩:=b8 ((w.alloc (cg ra m rc ba m bc (n:Int))).alloc (.cells #[.slice none 0 0,.slice none 0 0,.int .i64 0] 108));rw[<-hW]at wI;have wM:=ae wI;have H:=ae (h.ext wI);have yC:=h.rows.o3;have AX:=h.rows.l9;have HT:=ae hT;have zy:=ae (show t.rows.length=m from hT.len);have Cr:=ae hT.q8;have J:=ae (show W.heap[w.heap.size]?=some (.cells #[.slice ra m rc,.slice ba m bc,.int .i64 (n:Int)] 108 (0,0))by rw[hW,bX _ _ _ e7];exact ak _ _ _ rfl);have yA:=ae (show W.heap[w.heap.size+1]?=some (.cells #[.slice none 0 0,.slice none 0 0,.int .i64 0] 108 (0,0))by rw[hW];exact ak _ _ _ e7);have Bc:=ae (show W.heap.size=w.heap.size+1+1 by rw[hW];simp);have HG:=ae (jR H.o hT hn hm);have B6:=ae (fun(w':World) (hx:Ext W w')=>K6 (H.o.ext hx) hm hT.q8 (fun i hi=>by rw[(hT.row i hi).1];omega));have Za:=ae (fun w'=>bG (r:Int) 0 ((m:Int)-1) w');rw[show wJ (r:Int) 0 ((m:Int)-1)=true by unfold wJ;simp;omega]at Za;have HI2:=ae (fun w'=>bG (c:Int) 0 ((n:Int)+(m:Int)-1) w');rw[show wJ (c:Int) 0 ((n:Int)+(m:Int)-1)=true by unfold wJ;simp;omega]at HI2;have Ce:IntKind.i64.wrap ((n:Int)+(m:Int))=(n:Int)+(m:Int):=by rw[IntKind.wrap_i64];omega
 have AK:IntKind.i64.wrap ((n:Int)+(m:Int)-1)=(n:Int)+(m:Int)-1:=by rw[IntKind.wrap_i64];omega
 have B7:IntKind.i64.wrap ((m:Int)-1)=(m:Int)-1:=by rw[IntKind.wrap_i64];omega
 have Ym:=ae (show bo t (r:Int) (c:Int)=fD t r c from jL (hT.args hn hr b9));have HZP:=ae (fun(q:Int) (hp:t.at r c=(0,q))=>uq hT hn hr (show c<n+m by omega) hp);obtain⟨u,hu⟩:=b8 (n+m+1);have zT:=ae (show∀i,i<m->(t.row i).length=u by intro i hi;rw[hu];exact(hT.row i hi).1);have Vf:c<u:=by omega
 have ZC:u<=2001:=by omega
 have hrr:(r:Int)<(m:Int):=by omega
 have yN:(0:Int)<=(r:Int):=by omega
 have y5:(0:Int)<=(c:Int):=by omega
 have hcI:(c:Int)<(u:Int):=by omega
 obtain⟨zb,xJ,za,zn,zc,Bt,L1,o9⟩:=H.o.rows.at hr;subst Bt;have Js:zn=u:=by rw[<-o9.hlen];exact zT.o r hr
 subst Js;have hrc1:=o9.o3;have hrc2:=o9.l9;have Ay:=ae (show r8 W za zn zc (t.row r)from o9);have RX:=ae L1;obtain⟨pb,Ho,pp,pq,hpa,B1,D6,CG⟩:=o9.at Vf;subst hpa;have Ev:=ae D6;have FQ:=ae CG;have DM:=ae (show t.at r c=(pp,pq)from B1);clear h hT wI hu B1 o9;go_enter Tryz.func177,Tryz.ntmps177
 go_upto_region 1 with fail;rw[<-hW];clear hW;have p0:=au J.o;have p1:=aH J.o;have p2:=aI J.o;go_wp2_with fail;refine HG.o.mono ?_;rintro e w1 ⟨rfl,hx⟩;have X1:=ae hx;clear hx p0 p1 p2 L1 D6 CG;have p0:=au (X1.o.blk J.o);have p1:=aH (X1.o.blk J.o);have p2:=aI (X1.o.blk J.o);have y9:=X1.o.k6 RX.o;have k0:=X1.o.k6 Ev.o;by_cases hpz:pp=0
 ·have HN:=ae (show bo t (r:Int) (c:Int)=none from HZP.o pq (by rw[DM.o,hpz]));subst hpz;go_wp2_with fail;refine(Za.o _).mono ?_;rintro e w1' ⟨rfl,rfl⟩;go_wp2_with fail;refine(HI2.o _).mono ?_;rintro e w1' ⟨rfl,rfl⟩;go_wp2_with fail;refine(B6.o _ X1.o).mono ?_;rintro e w8 ⟨⟨Zx,Zw,OX,rfl,O⟩,hx⟩;have I:=ae (X1.o.trans hx);have Hd:=ae O;obtain⟨a7,n7,c7,rfl,E'⟩:=O.a.var;obtain⟨a8,n8,c8,rfl,FT⟩:=O.b.var;have r0:=au (I.o.blk yA.o);have r1:=aH (I.o.blk yA.o);have r2:=aI (I.o.blk yA.o);have rf:=dh (I.o.blk yA.o);have hsz:=X1.o.size;have Rb:=Bc.o;clear hx O p0 p1 p2;go_wp2_with fail;refine bodyPost_ret (v:=.tuple #[.agg #[.slice a7 n7 c7,.slice a8 n8 c8,.int .i64 (n:Int)],.bool false]) (by simp[results,Tryz.results177,go_sem,r0,r1,r2,rf]) rfl ⟨?_,(wM.o.trans I.o).A' (Nat.le_succ _) _ _ _⟩;refine⟨.slice a7 n7 c7,.slice a8 n8 c8,OX,?_,?_⟩
  ·unfold dF;rw[HN.o,Option.getD_none,Cr.o];rfl
  ·unfold dF;rw[HN.o,Option.getD_none];exact(Hd.o.yS fun k hk=>cZ _ _ _ _ _ _ b9).mono b9
 ·have hppz:(pp == 0)=false:=by simpa using hpz
  clear hpz;go_wp2_with fail;refine(Za.o _).mono ?_;rintro e w1' ⟨rfl,rfl⟩;go_wp2_with fail;refine(HI2.o _).mono ?_;rintro e w1' ⟨rfl,rfl⟩;go_wp2_with fail;refine(B6.o _ X1.o).mono ?_;rintro e w2 ⟨⟨va,vb,vs,rfl,ho⟩,hx⟩;have X2:=ae (X1.o.trans hx);obtain⟨aa,na,ca,rfl,JP⟩:=ho.a.var;obtain⟨ab,nb,cb,rfl,Kq⟩:=ho.b.var;obtain rfl:m=na:=by have h1:=ho.rows.len;have h3:=zy.o;have h4:=JP.o;omega
  obtain rfl:m=nb:=by have h1:=Kq.o;have h2:=HT.o.zP;omega
  obtain⟨G,hG,_,_⟩:=ho.a.cell hr;subst hG;obtain⟨B,hB,_,_,_⟩:=ho.b.block hr;subst hB;obtain⟨E,hE⟩:=b8 (w2.alloc (.cells #[.slice (some ⟨G,0,none⟩) m ca,.slice (some ⟨B,0,none⟩) m cb,.int .i64 (n:Int)] 108));obtain⟨gE,Rw⟩:=b8 w2.heap.size;have zw:Ext w2 E:=by rw[hE];exact Ext.alloc _ _
  have Tw:w1.heap.size<=gE:=by rw[Rw];exact hx.size
  have Kt:=ae (show DK E w1.heap.size gE G m ca (.slice (some ⟨B,0,none⟩) m cb) (n:Int) vs t.rows t.basis from
   ⟨by rw[hE,Rw];exact ak _ _ _ rfl,Tw,⟨ho.a.ext zw,ho.rows.ext zw⟩,ho.b.ext zw⟩)
  have Yl:=ae (hx.trans zw);have XE:=ae (X1.o.trans Yl.o);have Mg:w.heap.size+1+1<=w1.heap.size:=by have:=X1.o.size;have:=Bc.o;omega
  clear ho p0 p1 p2 hx y9 k0;go_upto_region 4 with fail;rw[<-hE,<-Rw];clear hE Rw zw;have p0:=au (XE.o.blk J.o);have y9:=XE.o.k6 RX.o;have k0:=XE.o.k6 Ev.o;have k1:=XE.o.k6 FQ.o;have JT:=ae (zT.o r hr);obtain⟨dv,Bk⟩:=b8 (Bo (t.row r) (pp,pq));have Gf:=ae (show Bo (t.row r) (t.at r c)=dv by rw[DM.o,Bk]);have GS:=ae (fun(w':World) (hx:Ext E w')=>uz (k1:=pp) (k2:=pq) (Ay.o.ext (XE.o.trans hx)) b9);simp only[<-Bk]at GS;clear Bk;have k7:Ext E E.drew:=Ext.drew E;have k8:=ae (fun(w':World) (h:Ext E w')=>(⟨h.k6 p0,h.k6 y9,h.k6 k0,h.k6 k1,h⟩:w'.cell? ⟨w.heap.size,0,none⟩=some (.slice (some ⟨zb,xJ,none⟩) m rc)/\w'.cell? ⟨zb,xJ+r,none⟩=some (.slice (some ⟨pb,Ho,none⟩) zn zc)/\w'.cell? ⟨pb,Ho+c*2,none⟩=some (.int .i64 pp)/\w'.cell? ⟨pb,Ho+c*2+1,none⟩=some (.int .i64 pq)/\Ext E w'));refine wp_region_held_drew (S:=(fun w'=>w'.cell? ⟨w.heap.size,0,none⟩=some (.slice (some ⟨zb,xJ,none⟩) m rc)/\w'.cell? ⟨zb,xJ+r,none⟩=some (.slice (some ⟨pb,Ho,none⟩) zn zc)/\w'.cell? ⟨pb,Ho+c*2,none⟩=some (.int .i64 pp)/\w'.cell? ⟨pb,Ho+c*2+1,none⟩=some (.int .i64 pq)/\Ext E w')) e8 ?_ (fun k9=>?_)
  ·exact k8.o _ k7
  refine tk 0 ?_;refine tk 1 ?_;refine tk 2 ?_;refine tk 3 ?_;refine tk 4 ?_;refine tk 5 ?_;refine tk 6 ?_;refine tk 7 ?_;refine tk 8 ?_;refine tk 9 ?_;refine tk 10 ?_;refine tk 11 ?_;refine tk 12 ?_;refine rd (i:=13) (h:=fun K hK=>?_);go_simp
  (go_at_call 190;refine(GS.o _ k7).mono ?_;rintro e w5 ⟨⟨v5,rfl,FE⟩,zh⟩;have A8:=k7.size;have k7:=k7.trans zh;obtain⟨a5,n5,c5,rfl,A9⟩:=FE.var)
  go_wp2_with fail;refine hK.out _ _ ?_ (fun k9=>?_)
  ·exact k8.o _ k7
  clear hK K
  try simp only[Act.put,sA,sB,sC]
  refine tk 14 ?_;refine tk 15 ?_;refine tk 16 ?_;refine tk 17 ?_;refine tk 18 ?_;refine wpAnyH_done e8 ?_ _;have X5:=ae (XE.o.trans k7);have Vq:=ae (Yl.o.trans k7);have UL:=ae k7;have xL:=ae (FE.mono A8);clear k7 FE p0 y9 k0 k1;cases dv with
  | none =>
    have HN:=ae (show bo t (r:Int) (c:Int)=none by rw[Ym.o];exact jK Gf.o);have p0:=au (X5.o.blk J.o);have p1:=aH (X5.o.blk J.o);have p2:=aI (X5.o.blk J.o);go_wp2_with fail;refine(B6.o _ X5.o).mono ?_;rintro e w8 ⟨⟨Zx,Zw,OX,rfl,O⟩,hx⟩;have I:=ae (X5.o.trans hx);have Hd:=ae O;obtain⟨a7,n7,c7,rfl,E'⟩:=O.a.var;obtain⟨a8,n8,c8,rfl,FT⟩:=O.b.var;have r0:=au (I.o.blk yA.o);have r1:=aH (I.o.blk yA.o);have r2:=aI (I.o.blk yA.o);have rf:=dh (I.o.blk yA.o);have hsz:=X5.o.size;have Rb:=Bc.o;clear hx O p0 p1 p2;go_wp2_with fail;refine bodyPost_ret (v:=.tuple #[.agg #[.slice a7 n7 c7,.slice a8 n8 c8,.int .i64 (n:Int)],.bool false]) (by simp[results,Tryz.results177,go_sem,r0,r1,r2,rf]) rfl ⟨?_,(wM.o.trans I.o).A' (Nat.le_succ _) _ _ _⟩;refine⟨.slice a7 n7 c7,.slice a8 n8 c8,OX,?_,?_⟩
    ·unfold dF;rw[HN.o,Option.getD_none,Cr.o];rfl
    ·unfold dF;rw[HN.o,Option.getD_none];exact(Hd.o.yS fun k hk=>cZ _ _ _ _ _ _ b9).mono b9
  | some mm =>
    have YK:=ae (show bo t (r:Int) (c:Int)=(y7 t r c mm m).map fun rs=>⟨rs,t.basis.set r (c:Int),(n:Int)⟩by
     rw[Ym.o,lu Gf.o,zy.o,Cr.o])
    have Ko:=ae (show l8 w5 E.heap.size (.slice a5 n5 c5) mm from xL.o);have QL:=ae (show mm.length=zn by have h1:=Gf.o;unfold Bo at h1;rw[JT.o]at h1;exact cU h1);have Cp:=ae (Kt.o.ext UL.o);have c8:=Cp.o.c0;obtain⟨G',Z,DF,RH⟩:=Cp.o.m.own.cell hr;simp only[Option.some.injEq,Addr.mk.injEq,and_true]at Z;subst Z;have hgk:w5.cell? ⟨G,r,none⟩=some (vs[r]?.getD undef):=by
     rw[RH r hr];have:r<vs.length:=by rw[Cp.o.m.Aj];exact hr
     simp[this]
    obtain⟨G',Z,_,_,CL⟩:=Cp.o.m.outer b9;simp only[Option.some.injEq,Addr.mk.injEq,and_true]at Z;subst Z;have HE1s:=ae (show w1.heap.size<=E.heap.size from Yl.o.size);have IC:=ae (Kt.o.put UL.o HE1s.o Ko.o hr)
    have YN:=ae (show l8 (w5.setCell ⟨G,r,none⟩ (.slice a5 n5 c5)) E.heap.size (.slice a5 n5 c5) mm from
     Ko.o.keep fun k hk=>heap_setCell_other _ _ _ _ fun e=>aY (by decide) Ko.o Cp.o.m.own k hk (by subst e;rfl))
    have RY:=ae (Vq.o.setCell (p:=⟨G,r,none⟩) DF (.slice a5 n5 c5));clear RH;go_upto_region 8 with fail;obtain⟨w6,FB⟩:=b8 (w5.setCell ⟨G,r,none⟩ (.slice a5 n5 c5));rw[<-FB]at IC YN RY;rw[<-FB];clear FB c8 hgk CL DF;have p0:=au ((X1.o.trans RY.o).blk J.o);go_wp2_with fail
    go_loopg [11] m (fun gk ii wr=>∃(k:Nat) (R:List Value) (M:List (j6)),b7 (gk+k=m)/\ii=.int .i64 (k:Int)/\b7 (y7 t r c mm k=some M)/\b7 (DK wr w1.heap.size gE G m ca (.slice (some ⟨B,0,none⟩) m cb) (n:Int) R M t.basis)/\b7 (l8 wr E.heap.size (.slice a5 n5 c5) mm)/\b7 (Ext w1 wr))
    case atStart=>exact⟨0,_,_,ae b9,rfl,ae rfl,IC,YN,RY⟩
    case round =>
     obtain⟨g2,xK⟩:=b8 gk;subst xK;obtain⟨U,wT⟩:=b8 wr;subst wT;obtain⟨k,R,M,N0,rfl,R3,Bu,yE,xZ⟩:=hrel;clear p0;have p0:=au ((X1.o.trans xZ.o).blk J.o);have hsr2:=xZ.o.size;by_cases yp:k<m
     ·obtain⟨zb2,VF,ya,yn,yc,L0,SM,BE⟩:=(H.o.ext (X1.o.trans xZ.o)).rows.at yp;simp only[Option.some.injEq,Addr.mk.injEq,and_true]at L0;obtain⟨rfl,rfl⟩:=L0;obtain rfl:zn=yn:=by rw[<-BE.hlen];exact(zT.o k yp).symm
      have Kn:=ae (show r8 U ya zn yc (t.row k)from BE);obtain⟨yb,xB,p,q,Da,xk,AJ,xM⟩:=Kn.o.at Vf;subst Da;have yt:=ae (show t.at k c=(p,q)from xk);have hyk1:=BE.o3;have hyk2:=BE.l9;have HZK:=ae SM;have GX:IntKind.i64.wrap (-p)=-p:=by
       have h1:=(HT.o.bounds.2 k c).1;have h2:=(HT.o.bounds.2 k c).2;rw[yt.o]at h1 h2;rw[IntKind.wrap_i64];simp only at h1 h2;omega
      clear xk BE;have Eo:=ae (show decide (k=r∨t.at k c=(0,1))=(decide (k=r)||((p == 0)&&(q == 1)))by rw[yt.o,Bool.eq_iff_iff];simp);obtain⟨E3,hE3⟩:=b8 (U.alloc (.cells #[.int .i64 p,.int .i64 q] 46));obtain⟨gx,hgx⟩:=b8 U.heap.size;have yu:=ae (show aj U E3 gx p q by rw[hE3,hgx];exact aj.new (Ext.refl _) _ _);go_upto_region 12 with fail;rw[<-hE3,<-hgx];clear hE3 hgx p0 AJ xM SM;have b0:=yu.o.c0;have b1:=yu.o.c1
      go_cut [103] (fun Sx wx=>Sx=.bool (decide (k=r∨t.at k c=(0,1)))/\b7 (Ext E3 wx))
      case first =>
       have k7:Ext E3 E3.drew:=Ext.drew E3;by_cases JA:k=r
       ·have heq:((k:Int) == (r:Int))=true:=by simp;omega
        have QR:=ae (show decide (k=r∨t.at k c=(0,1))=true by rw[Eo.o,decide_eq_true JA];rfl);clear JA;refine wp_region_held_drew (S:=(fun w'=>w'.cell? ⟨gx,0,none⟩=some (.int .i64 p)/\w'.cell? ⟨gx,1,none⟩=some (.int .i64 q)/\Ext E3 w')) e8 ?_ (fun k9=>?_)
        ·exact⟨k7.k6 b0,k7.k6 b1,k7⟩
        refine tk 0 ?_;refine tk 1 ?_;refine tk 2 ?_;refine tk 3 ?_;refine sk 4 ?_;refine sk 5 ?_;refine sk 6 ?_;refine tk 7 ?_;refine wpAnyH_done e8 ?_ _;go_wp2_with fail;go_meet;exact⟨by rw[QR.o],ae k7⟩
       ·have heq:((k:Int) == (r:Int))=false:=by simp;omega
        have QR:=ae (show decide (k=r∨t.at k c=(0,1))=((p == 0)&&(q == 1))by rw[Eo.o,decide_eq_false JA];rfl);clear JA;cases h1:(p == 0)
        all_goals
         cases h2:(q == 1)
        all_goals
         have Sd:=ae QR.o;rw[h1,h2]at Sd;refine wp_region_held_drew (S:=(fun w'=>w'.cell? ⟨gx,0,none⟩=some (.int .i64 p)/\w'.cell? ⟨gx,1,none⟩=some (.int .i64 q)/\Ext E3 w')) e8 ?_ (fun k9=>?_)
         ·exact⟨k7.k6 b0,k7.k6 b1,k7⟩
         refine tk 0 ?_;refine tk 1 ?_;refine tk 2 ?_;refine tk 3 ?_;refine tk 4 ?_;refine rd (i:=5) (h:=fun K hK=>?_);go_simp
         (go_at_call 32;refine(cl _ _).mono ?_;rintro e w3 ⟨rfl,wS⟩;have k7:=k7.trans wS)
         go_wp2_with fail;refine hK.out _ _ ?_ (fun k9=>?_)
         ·exact⟨k7.k6 b0,k7.k6 b1,k7⟩
         clear hK K
         try simp only[Act.put,sA,sB,sC]
         refine tk 6 ?_;refine tk 7 ?_;refine wpAnyH_done e8 ?_ _;go_wp2_with fail;go_meet;exact⟨by rw[Sd.o];rfl,ae k7⟩
      obtain⟨rfl,Fp⟩:=hcut;have zE:=ae (yu.o.grow Fp.o);have NK:=ae (Bu.o.ext zE.o.ext);have xp:=ae (yE.o.ext zE.o.ext);have xj:=ae (xZ.o.trans zE.o.ext);have Uq:=ae (Kn.o.ext zE.o.ext);clear b0 b1;cases hsk:decide (k=r∨t.at k c=(0,1))
      ·have QI:=ae (of_decide_eq_false hsk);clear hsk;have p0:=au ((X1.o.trans xj.o).blk J.o);have SM:=zE.o.ext.k6 HZK.o;have b0:=zE.o.c0;have b1:=zE.o.c1;obtain⟨sv,Hx⟩:=b8 (zo (t.row k) (-p,q) mm);have En:=ae (show y7 t r c mm (k+1)=sv.map fun x=>M.set k x by rw[Hx,tn R3.o QI.o,yt.o];rfl);have OF:=ae (fun(w':World) (hx:Ext wc w')=>lw (k1:=-p) (k2:=q) (Uq.o.ext hx) (xp.o.ext hx).wK b9);simp only[<-Hx]at OF;have FF:(0:Int)<=(k:Int):=by omega
       have BH:(k:Int)<(m:Int):=by omega
       clear Hx;go_upto_region 13 with fail;have k7:Ext wc wc.drew:=Ext.drew wc;have k8:=ae (fun(w':World) (h:Ext wc w')=>(⟨h.k6 p0,h.k6 SM,h.k6 b0,h.k6 b1,h⟩:w'.cell? ⟨w.heap.size,0,none⟩=some (.slice (some ⟨zb,xJ,none⟩) m rc)/\w'.cell? ⟨zb,xJ+k,none⟩=some (.slice (some ⟨yb,xB,none⟩) zn yc)/\w'.cell? ⟨gx,0,none⟩=some (.int .i64 p)/\w'.cell? ⟨gx,1,none⟩=some (.int .i64 q)/\Ext wc w'));refine wp_region_held_drew (S:=(fun w'=>w'.cell? ⟨w.heap.size,0,none⟩=some (.slice (some ⟨zb,xJ,none⟩) m rc)/\w'.cell? ⟨zb,xJ+k,none⟩=some (.slice (some ⟨yb,xB,none⟩) zn yc)/\w'.cell? ⟨gx,0,none⟩=some (.int .i64 p)/\w'.cell? ⟨gx,1,none⟩=some (.int .i64 q)/\Ext wc w')) e8 ?_ (fun k9=>?_)
       ·exact k8.o _ k7
       refine tk 0 ?_;refine tk 1 ?_;refine tk 2 ?_;refine tk 3 ?_;refine tk 4 ?_;refine tk 5 ?_;refine tk 6 ?_;refine tk 7 ?_;refine tk 8 ?_;refine tk 9 ?_;refine tk 10 ?_;refine tk 11 ?_;refine rd (i:=12) (h:=fun K hK=>?_);go_simp
       (go_at_call 175;refine(OF.o _ k7).mono ?_;rintro e w4 ⟨⟨v4,rfl,Ci⟩,xG⟩;have J4:=k7.size;have k7:=k7.trans xG;obtain⟨a4,n4,c4,rfl,EF⟩:=Ci.var)
       go_wp2_with fail;refine hK.out _ _ ?_ (fun k9=>?_)
       ·exact k8.o _ k7
       clear hK K
       try simp only[Act.put,sA,sB,sC]
       refine tk 13 ?_;refine tk 14 ?_;refine tk 15 ?_;refine tk 16 ?_;refine tk 17 ?_;refine wpAnyH_done e8 ?_ _;have Ai:=ae (xj.o.trans k7);have OE:=ae (NK.o.ext k7);have yW:=ae (Ci.mono J4);have YO:=ae (xp.o.ext k7);have HK4:=ae k7;clear k7 Ci SM b0 b1 p0 GX;cases sv with
       | none =>
         have HN:=ae (show bo t (r:Int) (c:Int)=none by rw[YK.o,pk (k:=k+1) (by rw[En.o];rfl) yp];rfl);have XF:=ae (X1.o.trans Ai.o);have p0:=au (XF.o.blk J.o);have p1:=aH (XF.o.blk J.o);have p2:=aI (XF.o.blk J.o);go_wp2_with fail;refine(B6.o _ XF.o).mono ?_;rintro e w8 ⟨⟨Zx,Zw,OX,rfl,O⟩,hx⟩;have I:=ae (XF.o.trans hx);have Hd:=ae O;obtain⟨a7,n7,c7,rfl,E'⟩:=O.a.var;obtain⟨a8,n8,c8,rfl,FT⟩:=O.b.var;have r0:=au (I.o.blk yA.o);have r1:=aH (I.o.blk yA.o);have r2:=aI (I.o.blk yA.o);have rf:=dh (I.o.blk yA.o);have hsz:=XF.o.size;have Rb:=Bc.o;clear hx O p0 p1 p2;go_wp2_with fail;refine bodyPost_ret (v:=.tuple #[.agg #[.slice a7 n7 c7,.slice a8 n8 c8,.int .i64 (n:Int)],.bool false]) (by simp[results,Tryz.results177,go_sem,r0,r1,r2,rf]) rfl ⟨?_,(wM.o.trans I.o).A' (Nat.le_succ _) _ _ _⟩;refine⟨.slice a7 n7 c7,.slice a8 n8 c8,OX,?_,?_⟩
         ·unfold dF;rw[HN.o,Option.getD_none,Cr.o];rfl
         ·unfold dF;rw[HN.o,Option.getD_none];exact(Hd.o.yS fun k hk=>cZ _ _ _ _ _ _ b9).mono b9
       | some nr =>
         have c8:=OE.o.c0;obtain⟨G',Z,DF,RH⟩:=OE.o.m.own.cell yp;simp only[Option.some.injEq,Addr.mk.injEq,and_true]at Z;subst Z;have hgk:w4.cell? ⟨G,k,none⟩=some (R[k]?.getD undef):=by
          rw[RH k yp];have:k<R.length:=by rw[OE.o.m.Aj];exact yp
          simp[this]
         obtain⟨G',Z,_,_,CL⟩:=OE.o.m.outer b9;simp only[Option.some.injEq,Addr.mk.injEq,and_true]at Z;subst Z;have OD:=ae (NK.o.put HK4.o (j4 xj.o.size) yW.o yp);have Br:=ae (Ai.o.setCell (p:=⟨G,k,none⟩) DF (.slice a4 n4 c4))
         have HOM5:=ae (show l8 (w4.setCell ⟨G,k,none⟩ (.slice a4 n4 c4)) E.heap.size (.slice a5 n5 c5) mm from
          YO.o.keep fun j hj=>heap_setCell_other _ _ _ _ fun e=>aY (by decide) YO.o OE.o.m.own j hj (by subst e;rfl))
         have HP5:=ae (show y7 t r c mm (k+1)=some (M.set k nr)by rw[En.o];rfl);clear RH;go_wp2_with fail
         go_roundg (g2-1)
         case measure=>have:=N0.o;omega
         case rel=>exact⟨k+1,_,_,ae (j4 N0.o),by go_num,HP5,OD,HOM5,Br⟩
      ·have JL:=ae (pl R3.o (of_decide_eq_true hsk));clear hsk GX;go_wp2_with fail
       go_roundg (g2-1)
       case measure=>have:=N0.o;omega
       case rel=>exact⟨k+1,R,M,ae (j4 N0.o),by go_num,JL,NK,xp,xj⟩
     ·have xQ:m=k:=by have:=N0.o;omega
      subst xQ;have HN:=ae (show bo t (r:Int) (c:Int)=some ⟨M,t.basis.set r (c:Int),(n:Int)⟩by rw[YK.o,R3.o];rfl);have c81:=aH Bu.o.box;obtain⟨B',off',MX,Ig⟩:=Bu.o.b.ints.at hr;simp only[Option.some.injEq,Addr.mk.injEq,and_true]at MX;obtain⟨rfl,rfl⟩:=MX;obtain⟨B',MX,hbB,Qd,_⟩:=Bu.o.b.block hr;simp only[Option.some.injEq,Addr.mk.injEq,and_true]at MX;subst MX;rw[Nat.zero_add]at Ig;have Iu:=ae (Bu.o.VS r (c:Int));have Fq:=ae (xZ.o.setCell (p:=⟨B,r,none⟩) hbB (.int .i64 (c:Int)));go_upto_region 18 with fail;obtain⟨W9,ET⟩:=b8 (U.setCell ⟨B,r,none⟩ (.int .i64 (c:Int)));rw[<-ET]at Iu Fq⊢;clear ET c81 Ig Qd;have r0:=au ((X1.o.trans Fq.o).blk yA.o);have r1:=aH ((X1.o.trans Fq.o).blk yA.o);have r2:=aI ((X1.o.trans Fq.o).blk yA.o);have rf:=dh ((X1.o.trans Fq.o).blk yA.o);have t0:=au Iu.o.box;have t1:=aH Iu.o.box;have t2:=aI Iu.o.box;go_wp2_with fail;refine bodyPost_ret (v:=.tuple #[.agg #[.slice (some ⟨G,0,none⟩) m ca,.slice (some ⟨B,0,none⟩) m cb,.int .i64 (n:Int)],.bool true]) (by simp[results,Tryz.results177,go_sem,r0,r1,r2,rf]) rfl ⟨?_,((wM.o.trans X1.o).trans Fq.o).A' (Nat.le_succ _) _ _ _⟩;refine⟨.slice (some ⟨G,0,none⟩) m ca,.slice (some ⟨B,0,none⟩) m cb,R,?_,?_⟩
      ·unfold dF;rw[HN.o,Option.getD_some];rfl
      ·unfold dF;rw[HN.o,Option.getD_some];exact(Iu.o.own.yS fun k hk=>cZ _ _ _ _ _ _ b9).mono b9
end
end Go.Proofs.YtalmoolkhcgmmaaGreat
