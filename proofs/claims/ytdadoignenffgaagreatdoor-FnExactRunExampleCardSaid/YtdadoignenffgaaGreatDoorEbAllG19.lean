import Derived.Test.YtdadoignenffgaaGreatDoorEbAllG18
import Derived.Test.YtdadoignenffgaaGreatDoorEbAllG12
import Derived.Test.YtdadoignenffgaaGreatDoorEbAllG14
import Derived.Test.YtdadoignenffgaaGreatDoorEbAllG11
set_option linter.unusedVariables false
set_option linter.unusedSimpArgs false
namespace Go.Proofs.YtdadoignenffgaaGreatDoor
variable{cost:j4}{r c:Nat}
set_option maxHeartbeats 16000000
set_option maxRecDepth 100000
open Go.RowKit
section
variable{w:World}{ra:j6}{rc:Nat}{ba:j6}{bc:Nat}{t:Tb}{n m:Nat}{T0:Nat->Nat->Rat}
theorem Po{t:Tb}{cost r:j4}{k:Nat}(h:dg t cost k=some r):dg t cost (k+1)=Bl r (ze (cost[(t.basis[k]?.getD 0).toNat]?.getD (0,0))) (t.row k):=by
 simp only[dg];rw[h];rfl
theorem yD(h:Hg w ra m rc ba m bc t)(Q:Ak n m T0 t)(hn:n<=1000)(hm:m<=1000){ka:j6}{I kc:Nat}{cost:j4}(hk:Rats w ka I kc cost)(Ci:I=n+m)(hv:Bb cost=true):
 Calls Tryz.prog 215 #[Gw ra m rc ba m bc (n:Int),.slice ka I kc] w fun e w'=>(∃v,e=.returned (.tuple #[v,.bool (cJ t cost).isSome])/\o0 w' w.heap.size v ((cJ t cost).getD []))/\Ext w w':=by
 have y9:=Ext.alloc w (cj ra m rc ba m bc (n:Int));have y7:=ae y9;have H:=ae (h.ext y9);have zf:=ae (show(w.alloc (cj ra m rc ba m bc (n:Int))).heap[w.heap.size]?=some (.cells #[.slice ra m rc,.slice ba m bc,.int .i64 (n:Int)] 116 (0,0))from ai _ _ _ rfl);have QC:=ae (hk.ext y9);have AX:=h.rows.l8;have B9:=h.rows.l9;have AS:=h.basis.l8;have AD:=h.basis.l9;have BR:=hk.l8;have k7:=hk.l9;have HT:=ae Q;have Ib:=ae hk.hlen;have Bs:=ae Ci
 have HE:=ae (show cJ t cost=dg t cost m by
  unfold cJ oq
  rw[hI (by rw[Q.ok hn,Q.r7,Q.len,hk.hlen,hv,Ci];simp),Q.len])
 have AM:=ae (fun j (hj:j<I)=>show o9 (cost[j]?.getD (0,0))=true by
  have:j<cost.length:=by rw[hk.hlen];exact hj
  rw[bk this];exact(Di.1 hv) _ (vl this))
 have HG:=ae (ky H.o Q hn hm);have QK:=ae hv;have Lr:(I:Int)=(n:Int)+(m:Int):=by omega
 have GX:IntKind.i64.wrap ((n:Int)+(m:Int))=(I:Int):=by rw[cn];omega
 have Ha:((I:Int) != (I:Int))=false:=by simp
 have JJ:=ae Lr;clear h Q y9 hk Ci hv Lr;go_enter Tryz.func215,Tryz.ntmps215
 go_upto_region 1 with fail;obtain⟨W,hW⟩:=b9 (w.alloc (cj ra m rc ba m bc (n:Int)));rw[<-hW]at y7 H zf HG QC;rw[<-hW];clear hW;have p0:=am zf.o;have p1:=aD zf.o;have p2:=aG zf.o;go_wp2_with fail;refine HG.o.mono ?_;rintro e w1 ⟨rfl,hx⟩;have X1:=ae hx;clear hx p0 p1 p2;have p0:=am (X1.o.blk zf.o);have p2:=aG (X1.o.blk zf.o);have HCP:=ae (nM (QC.o.ext X1.o) (j1 Bs.o));go_wp2_with fail;refine HCP.o.mono ?_;rintro e w2 ⟨⟨v2,rfl,D7⟩,hx⟩;obtain⟨a2,n2,c2,rfl,Gu⟩:=D7.var;have X2:=ae (X1.o.trans hx);have As:=ae D7;have DF:=X1.o.size;have Oe:=hx.size;clear D7 hx p0 p2 GX;go_wp2_with fail;refine(cO 0 _).mono ?_;rintro e w3 ⟨rfl,hx⟩;have X3:=ae (X2.o.trans hx);have zi:=ae (As.o.ext hx);have F6:=hx.size;clear hx
 go_wp2_with (first
  | (at_builtin;refine aM rfl _ _ rfl w1.heap.size (.slice a2 n2 c2) _ rfl (zi.o.ext (Ext.alloc _ _)) _ 1 _ [(0,1)] rfl (Rats.one' _ _ _ _ _ e8) (by rw[Ib.o];have:=Bs.o;omega) (by simp;omega) ?_;intro v5 w5 ho hg k9;have X5:=ae (ak (X3.o.trans (Ext.alloc _ _)) hg (fun j hj=>SC DF (zi.o.lt j hj).1));obtain⟨a5,n5,p5,rfl,CF⟩:=ho.var;have zW:=ae ho;clear ho hg k9))
 have HAL:=ae (ku (QC.o.ext X5.o));rw[QK.o]at HAL;refine HAL.o.mono ?_;rintro e w6 ⟨rfl,hx⟩;have X6:=ae (X5.o.trans hx);have Cf:=ae (zW.o.ext hx);clear hx;go_wp2_with fail
 go_loopg [6,7,8] m (fun gk oo fl ii wr=>∃(k:Nat) (f:Bool) (a1:j6) (n1 p1:Nat) (r:j4),b7 (gk+k=m)/\ii=.int .i64 (k:Int)/\oo=.slice a1 n1 p1/\fl=.bool f/\b7 (dg t cost k=if f=true then some r else none)/\b7 (o0 wr W.heap.size (.slice a1 n1 p1) r)/\b7 (Ext W wr))
 case atStart=>exact⟨0,true,_,_,_,_,ae e7,rfl,rfl,rfl,ae rfl,ae (Cf.o.mono DF),X6⟩
 case round =>
  obtain⟨g1,o7⟩:=b9 gk;subst o7;obtain⟨J,o5⟩:=b9 wr;subst o5;obtain⟨k,f,a1,n1,q1,r,HK,rfl,rfl,rfl,HC,HO,HX⟩:=hrel;have Rs:=HX.o.size;have p0:=am (HX.o.blk zf.o);by_cases hlt:k<m
  ·cases f
   ·have HN:=ae (show cJ t cost=none by rw[HE.o];exact ol HC.o e7);go_wp2_with fail
    go_ret2
    exact⟨⟨_,fj (by rw[HN.o];rfl),by rw[HN.o];exact o0.made _ _ (j1 y7.o.size)⟩,y7.o.trans (HX.o.trans (Ext.alloc _ _))⟩
   ·have Jd:=ae (show dg t cost k=some r from HC.o);have p1:=aD (HX.o.blk zf.o);obtain⟨Z,zL,ya,yn,yc,Dp,AU,o8⟩:=(H.o.ext HX.o).rows.at hlt;subst Dp;obtain⟨eb,U,DT,AV⟩:=(H.o.ext HX.o).basis.at hlt;subst DT;obtain⟨b,hb⟩:∃b:Nat,t.basis[k]?.getD 0=b:=by
     have:=HT.o.R7 _ (vl (l:=t.basis) (n:=k) (by rw[HT.o.De];exact hlt));exact⟨(t.basis[k]?.getD 0).toNat,by rw[bk (by rw[HT.o.De];exact hlt)];simp;omega⟩
    have H6:b<I:=by
     have h1:=HT.o.R7 _ (vl (l:=t.basis) (n:=k) (by rw[HT.o.De];exact hlt));rw[bk (by rw[HT.o.De];exact hlt),l']at hb;rw[hb]at h1;have:=Bs.o;omega
    rw[hb]at AV;obtain⟨cb,Ew,c1,G,S',O,AB,Ba⟩:=(QC.o.ext HX.o).at H6;subst S';have Iv:=aQ (AM.o b H6);rw[O]at Iv;have Ch:IntKind.i64.wrap (-c1)=-c1:=by rw[cn];simp only at Iv;omega
    have HCG:=ae (show dg t cost (k+1)=Bl r (-c1,G) (t.row k)by rw[Po Jd.o,hb,CI,O];rfl);have CV:=ae (kQ Jd.o);have B1:n1<=1048576:=by have h1:=HO.o.zj.hlen;rw[CV.o,Ib.o]at h1;have:=Bs.o;omega
    have Qx:=ae (fun(wz:World) (hz:Ext J wz)=>mN (k1:=-c1) (k2:=G) (HO.o.ext hz).zj (show Rats wz ya yn yc (t.row k)from o8.ext hz) B1);obtain⟨sv,IY⟩:=b9 (Bl r (-c1,G) (t.row k));have Gn:=ae (show dg t cost (k+1)=sv by rw[HCG.o,IY]);simp only[<-IY]at Qx;have Fu:(0:Int)<=(k:Int):=by omega
    have hk1':(k:Int)<(m:Int):=by omega
    have OS:(0:Int)<=(b:Int):=by omega
    have OR:(b:Int)<(I:Int):=by omega
    clear o8 Iv O IY hb;go_upto_region 8 with fail;have Ks:Ext J J.drew:=Ext.drew J;have k7:=Ks;clear Ks;have k8:=ae (fun(w':World) (h:Ext J w')=>(⟨h.j9 p0,h.j9 p1,h.j9 AU,h.j9 AV,h.j9 AB,h.j9 Ba,h⟩:w'.cell? ⟨w.heap.size,0,none⟩=some (.slice (some ⟨Z,zL,none⟩) m rc)/\w'.cell? ⟨w.heap.size,1,none⟩=some (.slice (some ⟨eb,U,none⟩) m bc)/\w'.cell? ⟨Z,zL+k,none⟩=some (.slice ya yn yc)/\w'.cell? ⟨eb,U+k,none⟩=some (.int .i64 (b:Int))/\w'.cell? ⟨cb,Ew+b*2,none⟩=some (.int .i64 c1)/\w'.cell? ⟨cb,Ew+b*2+1,none⟩=some (.int .i64 G)/\Ext J w'));refine rN (S:=(fun w'=>w'.cell? ⟨w.heap.size,0,none⟩=some (.slice (some ⟨Z,zL,none⟩) m rc)/\w'.cell? ⟨w.heap.size,1,none⟩=some (.slice (some ⟨eb,U,none⟩) m bc)/\w'.cell? ⟨Z,zL+k,none⟩=some (.slice ya yn yc)/\w'.cell? ⟨eb,U+k,none⟩=some (.int .i64 (b:Int))/\w'.cell? ⟨cb,Ew+b*2,none⟩=some (.int .i64 c1)/\w'.cell? ⟨cb,Ew+b*2+1,none⟩=some (.int .i64 G)/\Ext J w')) e9 ?_ (fun l7=>?_)
    ·exact k8.o _ k7
    refine tk 0 ?_;refine tk 1 ?_;refine tk 2 ?_;refine tk 3 ?_;refine tk 4 ?_;refine tk 5 ?_;refine tk 6 ?_;refine tk 7 ?_;refine tk 8 ?_;refine tk 9 ?_;refine tk 10 ?_;refine tk 11 ?_;refine tk 12 ?_;refine tk 13 ?_;refine tk 14 ?_;refine tk 15 ?_;refine tk 16 ?_;refine tk 17 ?_;refine tk 18 ?_;refine tk 19 ?_;refine tk 20 ?_;refine tk 21 ?_;refine tk 22 ?_;refine tk 23 ?_;refine tk 24 ?_;refine tk 25 ?_;refine rd (i:=26) (h:=fun K hK=>?_);go_simp
    (go_at_call 241;refine(Qx.o _ k7).mono ?_;rintro e w3 ⟨⟨v3,rfl,Av⟩,zm⟩;have Us:=k7.size;have k7:=k7.trans zm;obtain⟨a3,n3,c3,rfl,Ia⟩:=Av.var)
    go_wp2_with fail;refine hK.out _ _ ?_ (fun l7=>?_)
    ·exact k8.o _ k7
    clear hK K
    try simp only[Act.put,sA,sB,sC]
    refine tk 27 ?_;refine tk 28 ?_;refine tk 29 ?_;refine tk 30 ?_;refine tk 31 ?_;refine Gh e9 ?_ _;have zt:=ae (HX.o.trans k7);have Ar:=ae (Av.mono (SC Rs Us));clear k7 Av p0 p1 AU AV AB Ba Ch;go_wp2_with fail
    go_roundg (g1-1)
    case measure=>have:=HK.o;omega
    case rel=>exact⟨k+1,sv.isSome,a3,n3,c3,sv.getD [],ae (j1 HK.o),by go_num,rfl,rfl,ae (by rw[Gn.o];cases sv<;>rfl),Ar,zt⟩
  ·have Cr:m=k:=by have:=HK.o;omega
   subst Cr;cases f
   ·have HN:=ae (show cJ t cost=none by rw[HE.o];exact HC.o);go_wp2_with fail
    go_ret2
    exact⟨⟨_,fj (by rw[HN.o];rfl),by rw[HN.o];exact o0.made _ _ (j1 y7.o.size)⟩,y7.o.trans (HX.o.trans (Ext.alloc _ _))⟩
   ·have HN:=ae (show cJ t cost=some r by rw[HE.o];exact HC.o);go_wp2_with fail
    go_ret2
    exact⟨⟨_,fj (by rw[HN.o];rfl),by rw[HN.o];exact HO.o.mono (j1 y7.o.size)⟩,y7.o.trans HX.o⟩
theorem tI(h:Hg w ra m rc ba m bc t)(J:Ak n m T0 t)(hn:n<=1000)(hm:m<=1000):
 Calls Tryz.prog 170 #[Gw ra m rc ba m bc (n:Int)] w fun e w'=>(∃v,e=.returned v/\o0 w' w.heap.size v (A7 t))/\Ext w w':=by
 have y9:=Ext.alloc w (cj ra m rc ba m bc (n:Int));have y7:=ae y9;have H:=ae (h.ext y9);have zf:=ae (show(w.alloc (cj ra m rc ba m bc (n:Int))).heap[w.heap.size]?=some (.cells #[.slice ra m rc,.slice ba m bc,.int .i64 (n:Int)] 116 (0,0))from ai _ _ _ rfl);obtain⟨W,hW⟩:=b9 (w.alloc (cj ra m rc ba m bc (n:Int)));have FM:W.heap.size=w.heap.size+1:=by rw[hW];simp
 have CR:=ae FM;have AX:=h.rows.l8;have B9:=h.rows.l9;have AS:=h.basis.l8;have AD:=h.basis.l9;have HT:=ae J;have ZV:=ae (show A7 t=By t m by unfold A7;rw[hI (J.ok hn),J.len]);have J5:=ae (show By t 0=List.replicate (n+m) (0,1)by simp only[By];rw[J.r7,J.len];rfl);have CS:=ae (fun k=>show(By t k).length=n+m by rw[ji,J.r7,J.len];simp);have HO:=ae (o0.made W (w.heap.size+1) e7);have Q:=ae (Ext.alloc W (.cells #[] 62));rw[<-hW]at y7 H zf;rw[FM]at HO;have HG:=ae (ky (H.o.ext Q.o) J hn hm);have GX:IntKind.i64.wrap ((n:Int)+(m:Int))=(n:Int)+(m:Int):=by rw[cn];omega
 clear h J y9 FM;go_enter Tryz.func170,Tryz.ntmps170
 go_upto_region 1 with fail;rw[<-hW];clear hW;have FM:=CR.o;have p0:=am (Q.o.blk zf.o);have p1:=aD (Q.o.blk zf.o);have p2:=aG (Q.o.blk zf.o);go_wp2_with fail;refine HG.o.mono ?_;rintro e w1 ⟨rfl,hx⟩;have X1:=ae (Q.o.trans hx);have VU:=ae (HO.o.ext hx);clear hx p0 p1 p2;go_wp2_with fail
 go_loopg [3,4] (n+m) (fun gk oo ii wr=>∃(k:Nat) (a1:j6) (I p1:Nat),b7 (gk+k=n+m)/\ii=.int .i64 (k:Int)/\oo=.slice a1 I p1/\b7 (o0 wr (w.heap.size+1) (.slice a1 I p1) (List.replicate k (0,1)))/\b7 (Ext W wr))
 case atStart=>exact⟨0,_,_,_,ae e7,rfl,rfl,VU,X1⟩
 case round =>
  obtain⟨g1,o7⟩:=b9 gk;subst o7;obtain⟨o6,o5⟩:=b9 wr;subst o5;obtain⟨k,a1,I,q1,HK,rfl,rfl,zv,HX⟩:=hrel;have p0:=am (HX.o.blk zf.o);have p2:=aG (HX.o.blk zf.o);have hsz:=HX.o.size;by_cases hlt:k<n+m
  ·have AN:=ae (show(List.replicate k ((0:Int),(1:Int))).length=k by simp);have Rz:(k:Int)<(n:Int)+(m:Int):=by omega
   go_wp2_with fail;refine(cO 0 _).mono ?_;rintro e w3 ⟨rfl,hx⟩;have X3:=ae (HX.o.trans hx);have zi:=ae (zv.o.ext hx);have F6:=X3.o.size;clear hx p0 p2
   go_wp2_with (first
    | (at_builtin;refine aM rfl _ _ rfl (w.heap.size+1) (.slice a1 I q1) _ rfl (zi.o.ext (Ext.alloc _ _)) _ 1 _ [(0,1)] rfl (Rats.one' _ _ _ _ _ e8) (by rw[AN.o];omega) (by simp;omega) ?_;intro v5 w5 ho hg k9;have X5:=ae (ak (X3.o.trans (Ext.alloc _ _)) hg (fun j hj=>by have:=(zi.o.lt j hj).1;omega));obtain⟨a5,n5,p5,rfl,CF⟩:=ho.var;have zW:=ae ho;clear ho hg k9))
   go_roundg (g1-1)
   case measure=>have:=HK.o;omega
   case rel=>exact⟨k+1,a5,n5,p5,ae (j1 HK.o),by go_num,rfl,ae (by have:=zW.o;rw[<-aaA]at this;exact this),X5⟩
  ·have Cr:k=n+m:=by have:=HK.o;omega
   have Rz:¬(k:Int)<(n:Int)+(m:Int):=by omega
   have HKM:=ae Cr;have As:=ae (show o0 o6 (w.heap.size+1) (.slice a1 I q1) (By t 0)by rw[J5.o,<-Cr];exact zv.o);clear Cr;go_wp2_with fail;clear p2 Rz
   go_loopg [5] m (fun gk ii wr=>∃(k:Nat),b7 (gk+k=m)/\ii=.int .i64 (k:Int)/\b7 (o0 wr (w.heap.size+1) (.slice a1 I q1) (By t k))/\b7 (Ext W wr))
   case atStart=>exact⟨0,ae e7,rfl,As,HX⟩
   case round =>
    obtain⟨g2,Am⟩:=b9 gk;subst Am;obtain⟨K,zx⟩:=b9 wr;subst zx;obtain⟨j,HJ,rfl,U,O⟩:=hrel;clear p0;have p0:=am (O.o.blk zf.o);by_cases Ca:j<m
    ·have p1:=aD (O.o.blk zf.o);have p2:=aG (O.o.blk zf.o);obtain⟨zb,zL,ya,Z,yc,Dp,AU,o8⟩:=(H.o.ext O.o).rows.at Ca;subst Dp;obtain⟨u,hu⟩:=b9 (n+m);have Em:Z=u+1:=by rw[<-o8.hlen,hu];exact(HT.o.row j Ca).1
     have Qs:=ae Em;have An:=o8.l8;have EU:=o8.l9;have Wl:u<=200000:=by omega
     obtain⟨yb,zE,p,q,ET,zR,Jm,Jl⟩:=o8.at (show u<Z by omega);subst ET;have Ay:=ae (show t.at j u=(p,q)from zR);obtain⟨b,hb⟩:∃b:Nat,t.basis[j]?.getD 0=b:=by
      have:=HT.o.R7 _ (vl (l:=t.basis) (n:=j) (by rw[HT.o.De];exact Ca));exact⟨(t.basis[j]?.getD 0).toNat,by rw[bk (by rw[HT.o.De];exact Ca)];simp;omega⟩
     have JE:b<n+m:=by
      have h1:=HT.o.R7 _ (vl (l:=t.basis) (n:=j) (by rw[HT.o.De];exact Ca));rw[bk (by rw[HT.o.De];exact Ca),l']at hb;rw[hb]at h1;omega
     have HB:=ae hb;obtain⟨eb,zl,DT,AV⟩:=(H.o.ext O.o).basis.at Ca;subst DT;rw[hb]at AV;have B1:I=u:=by have:=U.o.zj.hlen;rw[CS.o]at this;omega
     subst B1;obtain⟨G,hG,Gf,H5,LH⟩:=U.o.block (k:=b) e7;subst hG;obtain⟨G',K9,g1v,g2v,CD,Fv,Fh,DY⟩:=U.o.zj.at (show b<I by omega);simp only[bA,mq,zz]at CD;obtain⟨rfl,rfl⟩:=CD;rw[Mf]at Fh DY;have Qe:IntKind.i64.wrap ((n:Int)+(m:Int))=(I:Int):=by rw[cn];omega
     have GY:(I:Int)<(Z:Int):=by have:=Qs.o;omega
     have Mk:(0:Int)<=(I:Int):=by omega
     have OS:(0:Int)<=(b:Int):=by omega
     have OR:(b:Int)<(I:Int):=by omega
     have hj0:(0:Int)<=(j:Int):=by omega
     have hj1:(j:Int)<(m:Int):=by omega
     have HU:=ae hu;clear zR o8 Em hb Fv hu GX;go_upto_region 11 with fail
     go_still_tail 20,e9
     have zW:=ae (show o0 ((K.drew.setCell ⟨G,b*2,none⟩ (.int .i64 p)).setCell ⟨G,b*2+1,none⟩ (.int .i64 q)) (w.heap.size+1) (.slice (some ⟨G,0,none⟩) I q1) (By t (j+1))by
      have h1:=(U.o.ext (Ext.drew K)).set (k:=b) (by rw[CS.o,<-HU.o];omega) p q;have h2:By t (j+1)=(By t j).set b (p,q):=by
       simp only[By];rw[HB.o,CI,HT.o.r7,HT.o.len,CI,<-HU.o,Ay.o]
      rw[h2];exact h1)
     have Vf:W.heap.size<=G:=by have:=CR.o;omega
     have D0:=ae (((O.o.trans (Ext.drew K)).setCell (p:=⟨G,b*2,none⟩) Vf (.int .i64 p)).setCell (p:=⟨G,b*2+1,none⟩) Vf (.int .i64 q));clear Qe;go_wp2_with fail
     go_roundg (g2-1)
     case measure=>have:=HJ.o;omega
     case rel=>exact⟨j+1,ae (j1 HJ.o),by go_num,zW,D0⟩
    ·have Ga:m=j:=by have:=HJ.o;omega
     subst Ga;go_wp2_with fail;go_ret;exact⟨⟨_,rfl,by rw[ZV.o];exact U.o.mono e7⟩,y7.o.trans O.o⟩
end
section
variable{w:World}{a:j6}{na ca:Nat}{b:j6}{nb cb:Nat}{c:j6}{nc cc:Nat}{A:j5}{B:j7}{C:j4}
theorem pW(h:EA w a na ca b nb cb c nc cc A B C)(ok:zM A B C=true):
 Calls Tryz.prog 106 #[DD a na ca b nb cb c nc cc] w fun e w'=>(∃Z vb vs,e=.returned (.agg #[Z,vb,.int .i64 (nc:Int)])/\AJ w' w.heap.size Z vb vs (bV A B nc))/\Ext w w':=by
 obtain⟨r1,r2,r3,r4,r5,r6⟩:=cQ h ok;subst r3;have y9:=(Ext.alloc w (bj a nb ca b nb cb c nc cc)).trans (Ext.alloc _ (.cells #[.slice none 0 0,.slice none 0 0,.int .i64 0] 116));obtain⟨W,hW⟩:=b9 ((w.alloc (bj a nb ca b nb cb c nc cc)).alloc (.cells #[.slice none 0 0,.slice none 0 0,.int .i64 0] 116));rw[<-hW]at y9;have y7:=ae y9;have H:=ae (h.ext y9);have HV:=ae (ej H.o);rw[ok]at HV;have Af:=ae (show W.heap[w.heap.size+1]?=some (.cells #[.slice none 0 0,.slice none 0 0,.int .i64 0] 116 (0,0))by rw[hW];exact ai _ _ _ e8);have zf:=ae (show W.heap[w.heap.size]?=some (.cells #[.slice a nb ca,.slice b nb cb,.slice c nc cc] 68 (0,0))by rw[hW,aO _ _ _ e8];exact ai _ _ _ rfl);have CR:=ae (show W.heap.size=w.heap.size+1+1 by rw[hW];simp);have Mq:=h.a.l8;have Mp:=h.a.l9;have AS:=h.b.l8;have AD:=h.b.l9;have Ba:=h.c.l8;have CY:=h.c.l9;have CG:=ae h.a.hlen;have AO:=ae h.b.hlen;have Dj:=ae r4;have I7:=ae r5;have Mx:=ae r6;clear h y9 ok r4 r5 r6;go_enter Tryz.func106,Tryz.ntmps106
 go_upto_region 1 with fail;rw[<-hW];clear hW;have p0:=am zf.o;have p1:=aD zf.o;have p2:=aG zf.o;go_wp2_with fail;refine HV.o.mono ?_;rintro e I ⟨rfl,hx⟩;have X1:=ae hx;have H1:=ae (H.o.ext hx);clear hx p0 p1 p2;have P0:=ae (am (X1.o.blk zf.o));have P1:=ae (aD (X1.o.blk zf.o));have P2:=ae (aG (X1.o.blk zf.o));have p2:=P2.o;have DF:w.heap.size+1+1<=I.heap.size:=by have:=X1.o.size;have:=CR.o;omega
 obtain⟨E,hE⟩:=b9 (I.alloc (.cells #[.slice none 0 0,.slice none 0 0,.int .i64 (nc:Int)] 116));have XE:=ae (show Ext I E by rw[hE];exact Ext.alloc _ _)
 have ZT:=ae (show Dz E I.heap.size I.heap.size (.slice none 0 0) (.slice none 0 0) (nc:Int) [] [] []by
  rw[hE];exact⟨ai _ _ _ rfl,ao _,aaC _ _ _ 1,dJ.nil _ _,o4.nil _ _⟩)
 go_upto_region 4 with fail;rw[<-hE];clear hE p2;have p0:=XE.o.j9 P0.o;go_wp2_with fail
 go_loopg [4] nb (fun gk ii wr=>∃(k:Nat) (Z vb:Value) (vs:List Value),b7 (gk+k=nb)/\ii=.int .i64 (k:Int)/\b7 (Dz wr I.heap.size I.heap.size Z vb (nc:Int) vs ((List.range k).map (cL A B)) ((List.range k).map fun i=>((nc+i:Nat):Int)))/\b7 (Ext I wr))
 case atStart=>exact⟨0,_,_,_,ae e7,rfl,ZT,XE⟩
 case round =>
  obtain⟨g1,o7⟩:=b9 gk;subst o7;obtain⟨J,o5⟩:=b9 wr;subst o5;obtain⟨k,Z,vb,vs,HK,rfl,T,HX⟩:=hrel;clear p0;have p0:=HX.o.j9 P0.o;have Rs:=HX.o.size;by_cases hlt:k<nb
  ·obtain⟨zb,zL,ya,Q,yc,Dp,AU,o8⟩:=(H1.o.ext HX.o).a.at hlt;subst Dp;obtain rfl:Q=nc:=by rw[<-o8.hlen];exact Dj.o k hlt
   have An:=o8.l8;have EU:=o8.l9;obtain⟨eb,zl,DT,AV⟩:=H1.o.b.at hlt;subst DT;obtain⟨O,H6⟩:=b9 (B[k]?.getD 0);rw[<-H6]at AV;have Sw:=ae AV;have HZ0:=ae AU;have HBK:=ae H6;have Bg:-5000<=O/\O<=5000:=by
    rw[H6,bk (by rw[AO.o];exact hlt)];exact Mx.o _ (vl _)
   obtain⟨hbb0,hbb1⟩:=Bg;obtain⟨G,Rt⟩:=b9 (BF O);have LR:=ae Rt;have Od:(O<0/\G=-1)∨(¬O<0/\G=1):=by rw[Rt];exact fR O
   have Ec:-1<=G/\G<=1:=by omega
   obtain⟨hsb0,hsb1⟩:=Ec;have p1:=HX.o.j9 P1.o;have Ed:=HX.o.j9 Sw.o;have CA:=ae o8;clear o8 H6 Rt AV
   go_upto_if 29 with fail
   go_cut [5] (fun s6 wx=>s6=.int .i64 G/\J=wx)
   case first =>
    rcases Od with⟨Du,rfl⟩|⟨Du,rfl⟩
    all_goals
     go_wp2_with fail;go_meet;exact⟨rfl,rfl⟩
   obtain⟨rfl,rfl⟩:=hcut;clear Od;have Tu:=ae (o0.made J J.heap.size (ao _));go_wp2_with fail
   go_loopg [6,7] Q (fun gk oo ii wr=>∃(j:Nat) (a1:j6) (n1 q1:Nat),b7 (gk+j=Q)/\ii=.int .i64 (j:Int)/\oo=.slice a1 n1 q1/\b7 (o0 wr J.heap.size (.slice a1 n1 q1) (((A[k]?.getD []).take j).map fun x=>(G*x,(1:Int))))/\b7 (Ext J wr))
   case atStart=>exact⟨0,_,_,_,ae e7,rfl,rfl,Tu,ae (Ext.alloc _ _)⟩
   case round =>
    obtain⟨g2,Am⟩:=b9 gk;subst Am;obtain⟨wr2,zx⟩:=b9 wr;subst zx;obtain⟨j,a1,n1,q1,HJ,rfl,rfl,zv,yZ⟩:=hrel;clear p0 p1 Ed AU;have p2:=(HX.o.trans yZ.o).j9 P2.o;by_cases Ca:j<Q
    ·have p0:=(HX.o.trans yZ.o).j9 P0.o;have AU:=yZ.o.j9 HZ0.o;obtain⟨xb,MI,SO,y9⟩:=(CA.o.ext yZ.o).at Ca;subst SO;obtain⟨x,hx⟩:=b9 ((A[k]?.getD [])[j]?.getD 0);rw[<-hx]at y9;have QD:=ae (show j<(A[k]?.getD []).length by rw[Dj.o k hlt];exact Ca);have Ri:-5000<=x/\x<=5000:=by
      rw[hx,bk QD.o];exact(I7.o k hlt).2 _ (vl _)
     obtain⟨hxb0,hxb1⟩:=Ri;have F8:G*x=x∨G*x=-x∨G*x=0:=by
      have:G=-1∨G=0∨G=1:=by omega
      rcases this with h1|h1|h1<;>subst h1<;>omega
     have K0:-5000<=G*x/\G*x<=5000:=by rcases F8 with h1|h1|h1<;>rw[h1]<;>omega
     obtain⟨z,hz⟩:=b9 (G*x);have NX:wrap64 (G*x)=z:=by rw[hz];unfold wrap64;omega
     have Bw:=ae (show((A[k]?.getD []).take j).map (fun x=>(G*x,(1:Int)))++[(z,1)]=((A[k]?.getD []).take (j+1)).map (fun x=>(G*x,(1:Int)))by
      rw[hz,hx];exact sV (fun x=>(G*x,(1:Int))) QD.o)
     have AN:=ae (show(((A[k]?.getD []).take j).map (fun x=>(G*x,(1:Int)))).length=j by rw[zo,FX];have:=QD.o;omega);clear hx hz F8 K0;go_wp2_with fail;rw[NX];clear NX;refine(cO z _).mono ?_;rintro e w3 ⟨rfl,hx⟩;have X3:=ae (yZ.o.trans hx);have zi:=ae (zv.o.ext hx);have F6:=X3.o.size;clear hx
     go_wp2_with (first
      | (at_builtin;refine aM rfl _ _ rfl J.heap.size (.slice a1 n1 q1) _ rfl (zi.o.ext (Ext.alloc _ _)) _ 1 _ [(z,1)] rfl (Rats.one' _ _ _ _ _ e8) (by rw[AN.o];omega) (by simp;omega) ?_;intro v5 w5 ho hg k9;have X5:=ae (ak (X3.o.trans (Ext.alloc _ _)) hg (fun j hj=>(zi.o.lt j hj).1));obtain⟨a5,n5,p5,rfl,CF⟩:=ho.var;have zW:=ae ho;clear ho hg k9))
     go_roundg (g2-1)
     case measure=>have:=HJ.o;omega
     case rel=>exact⟨j+1,a5,n5,p5,ae (j1 HJ.o),by go_num,rfl,ae (by rw[<-Bw.o];exact zW.o),X5⟩
    ·have Eo:Q=j:=by have:=HJ.o;omega
     have Dh:=ae (show o0 wr2 J.heap.size (.slice a1 n1 q1) ((A[k]?.getD []).map (fun x=>(G*x,(1:Int))))by
      have h1:=zv.o
      rw[p4 (by rw[Dj.o k hlt];omega)]at h1;exact h1)
     have KL:=ae (show((A[k]?.getD []).map (fun x=>(G*x,(1:Int)))).length=Q by rw[zo];exact Dj.o k hlt);have p0:=(HX.o.trans yZ.o).j9 P0.o;have HJN:=ae Eo;clear Eo;go_wp2_with fail
     go_loopg [6,8] nb (fun gk oo ii wr=>∃(i:Nat) (a1:j6) (n1 q1:Nat),b7 (gk+i=nb)/\ii=.int .i64 (i:Int)/\oo=.slice a1 n1 q1/\b7 (o0 wr J.heap.size (.slice a1 n1 q1) ((A[k]?.getD []).map (fun x=>(G*x,(1:Int)))++(List.range i).map fun i=>if i=k then((1:Int),(1:Int)) else(0,1)))/\b7 (Ext J wr))
     case atStart=>exact⟨0,_,_,_,ae e7,rfl,rfl,ae (by simpa using Dh.o),yZ⟩
     case round =>
      obtain⟨g3,D8⟩:=b9 gk;subst D8;obtain⟨U,B4⟩:=b9 wr;subst B4;obtain⟨i,a3,n3,q3,HI,rfl,rfl,zi,zk⟩:=hrel;clear p0 p2;have p0:=(HX.o.trans zk.o).j9 P0.o;by_cases DI:i<nb
      ·have AN:=ae (show((A[k]?.getD []).map (fun x=>(G*x,(1:Int)))++(List.range i).map fun i=>if i=k then((1:Int),(1:Int)) else(0,1)).length=Q+i by rw[pk,KL.o];simp);obtain⟨un,EJ⟩:∃u:Int,u=if i=k then 1 else 0:=⟨_,rfl⟩
       have Bw:=ae (show(List.range i).map (fun i=>if i=k then((1:Int),(1:Int)) else(0,1))++[(un,1)]=(List.range (i+1)).map fun i=>if i=k then((1:Int),(1:Int)) else(0,1)by
        rw[<-dm,EJ];congr 2;split<;>rfl)
       have Ow:((i:Int) == (k:Int))=decide (i=k):=by by_cases h:i=k<;>simp[h]<;>omega
       have HUN:=ae (show zA (decide (i=k))=un by rw[EJ];by_cases h:i=k<;>simp[h,zA]);have Md:=ae (fun w'=>fk (decide (i=k)) w');rw[HUN.o]at Md;clear EJ;go_wp2_with (first|(go_at_call 104;refine(Md.o _).mono ?_;rintro e w2 ⟨rfl,rfl⟩));clear Ow;refine(cO un _).mono ?_;rintro e w3 ⟨rfl,hx⟩;have X3:=ae (zk.o.trans hx);have Ar:=ae (zi.o.ext hx);have F6:=X3.o.size;clear hx
       go_wp2_with (first
        | (at_builtin;refine aM rfl _ _ rfl J.heap.size (.slice a3 n3 q3) _ rfl (Ar.o.ext (Ext.alloc _ _)) _ 1 _ [(un,1)] rfl (Rats.one' _ _ _ _ _ e8) (by rw[AN.o];omega) (by simp;omega) ?_;intro v5 w5 ho hg k9;have X5:=ae (ak (X3.o.trans (Ext.alloc _ _)) hg (fun j hj=>(Ar.o.lt j hj).1));obtain⟨a5,n5,p5,rfl,CF⟩:=ho.var;have zW:=ae ho;clear ho hg k9))
       go_roundg (g3-1)
       case measure=>have:=HI.o;omega
       case rel=>exact⟨i+1,a5,n5,p5,ae (j1 HI.o),by go_num,rfl,ae (by have:=zW.o;rw[N7,Bw.o]at this;exact this),X5⟩
      ·have zU:i=nb:=by have:=HI.o;omega
       subst zU;obtain⟨z2,El⟩:=b9 (G*O);have F8:G*O=O∨G*O=-O∨G*O=0:=by
        have:G=-1∨G=0∨G=1:=by omega
        rcases this with h1|h1|h1<;>subst h1<;>omega
       have Qf:IntKind.i64.wrap (G*O)=z2:=by
        rw[cn,El];rcases F8 with h1|h1|h1<;>rw[h1]<;>omega
       have HRE:=ae (show((A[k]?.getD []).map (fun x=>(G*x,(1:Int)))++(List.range i).map fun i=>if i=k then((1:Int),(1:Int)) else(0,1))++[(z2,1)]=cL A B k by
        unfold cL;rw[<-HBK.o,<-LR.o,El,CG.o,ui])
       have AN:=ae (show((A[k]?.getD []).map (fun x=>(G*x,(1:Int)))++(List.range i).map fun i=>if i=k then((1:Int),(1:Int)) else(0,1)).length=Q+i by rw[pk,KL.o];simp);have AM:=ae (show vs.length=k by rw[T.o.rows.len];simp);have t0:=am T.o.box;have p1:=HX.o.j9 P1.o;have Ed:=HX.o.j9 Sw.o;have Fu:(0:Int)<=(k:Int):=by omega
       have BR:(k:Int)<(i:Int):=by omega
       clear El F8;go_upto_region 19 with fail;have EY:Ext U U.drew:=Ext.drew U;have k7:Ext J U.drew:=zk.o.trans EY;have k8:=ae (fun(w':World) (h:Ext J w')=>(⟨h.j9 t0,h.j9 p1,h.j9 Ed,HX.o.trans h⟩:w'.cell? ⟨I.heap.size,0,none⟩=some Z/\w'.cell? ⟨w.heap.size,1,none⟩=some (.slice (some ⟨eb,zl,none⟩) i cb)/\w'.cell? ⟨eb,zl+k,none⟩=some (.int .i64 O)/\Ext I w'));refine dD (M:=[16]) (S:=fun w'=>w'.cell? ⟨I.heap.size,0,none⟩=some Z/\w'.cell? ⟨w.heap.size,1,none⟩=some (.slice (some ⟨eb,zl,none⟩) i cb)/\w'.cell? ⟨eb,zl+k,none⟩=some (.int .i64 O)/\Ext I w') e9 ?_;have l7:=k8.o _ k7;refine lp 0 ?_;refine ll 1 ?_;refine lp 2 ?_;refine lp 3 ?_;refine lp 4 ?_;refine ll 5 ?_;refine lp 6 ?_;refine lp 7 ?_;refine ll 8 ?_;refine lp 9 ?_;refine bg (i:=10) (oi:=?_) ?_ ?_ ?_ (fun K hK=>?_);rotate_left
       ·simp only[gA,gB,gC];rfl
       ·kernel_rfl
       ·kernel_rfl
       go_simp;go_at_call 49;refine(cO _ _).mono ?_;rintro e w5 ⟨rfl,AK⟩;have EY:Ext U w5:=EY.trans AK;have k7:Ext J w5:=k7.trans AK;have EK:=k7.size;go_wp2_with fail;refine hK.out _ _ (fun _=>k8.o _ k7) ?_;have l7:=k8.o _ k7;clear hK K
       try simp only[Act.put,sA,sB,sC]
       refine bg (i:=11) (oi:=?_) ?_ ?_ ?_ (fun K hK=>?_);rotate_left
       ·simp only[gA,gB,gC];rfl
       ·kernel_rfl
       ·kernel_rfl
       go_simp;refine hK.out _ _ (fun _=>k8.o _ (k7.trans (Ext.alloc _ _))) ?_;clear hK K
       try simp only[Act.put,sA,sB,sC]
       refine bg (i:=12) (oi:=?_) ?_ ?_ ?_ (fun K hK=>?_);rotate_left
       ·simp only[gA,gB,gC];rfl
       ·kernel_rfl
       ·kernel_rfl
       refine dr _ _ j0 J.heap.size (.slice a3 n3 q3) _ j0 ((zi.o.ext EY).ext (Ext.alloc _ _)) _ 1 _ [(z2,1)] j0 (Rats.one' _ _ _ _ _ rfl) (by rw[AN.o];omega) (by simp;omega) ?_;intro v6 w6 ho hg k9;obtain⟨a6,n6,q6,rfl,H'⟩:=ho.var;have Cf:=ae ho;have Hb:Ext J w6:=ak (k7.trans (Ext.alloc _ _)) hg (fun j hj=>(zi.o.lt j hj).1);have hs6:=Hb.size;clear ho hg k9;refine hK.out _ _ (fun _=>k8.o _ Hb) ?_;have l7:=k8.o _ Hb;clear hK K
       try simp only[Act.put,sA,sB,sC]
       refine bg (i:=13) (oi:=?_) ?_ ?_ ?_ (fun K hK=>?_);rotate_left
       ·simp only[gA,gB,gC];rfl
       ·kernel_rfl
       ·kernel_rfl
       go_simp;refine hK.out _ _ (fun _=>k8.o _ (Hb.trans (Ext.alloc _ _))) ?_;clear hK K
       try simp only[Act.put,sA,sB,sC]
       refine bg (i:=14) (oi:=?_) ?_ ?_ ?_ (fun K hK=>?_);rotate_left
       ·simp only[gA,gB,gC];rfl
       ·kernel_rfl
       ·kernel_rfl
       refine eZ _ _ j0 I.heap.size Z vs j0 ((T.o.a.ext Hb).ext (Ext.alloc _ _)) _ _ 1 j0 (by simp;rfl) rfl (by rw[AM.o];omega) (by simp;omega) ?_;intro v7 w7 ho hg k9;obtain⟨a7,n7,q7,rfl,H9⟩:=ho.var;have IJ:=ae ho;have PZ:=ae hg;have BH:=T.o.Kz (Hb.trans (Ext.alloc _ _)) hg;have Qp:=am BH;have cf7:=dp BH;have GD:Ext I w7:=ak ((HX.o.trans Hb).trans (Ext.alloc _ _)) hg (fun j hj=>(T.o.a.lt j hj).1);clear ho hg k9 BH;refine hK.out _ _ (fun _=>JH Qp (JH (GD.j9 P1.o) (JH (GD.j9 Sw.o) GD))) ?_;have l7:=JH Qp (JH (GD.j9 P1.o) (JH (GD.j9 Sw.o) GD));clear hK K
       try simp only[Act.put,sA,sB,sC]
       refine lp 15 ?_;refine dM (i:=16) (oi:=?_) (w':=?_) ?_ ?_ ?_ ?_ ?_ ?_ ?_;rotate_left 2
       ·simp only[gA,gB,gC];rfl
       ·kernel_rfl
       ·kernel_rfl
       ·exact EE e9
       ·rfl
       ·go_simp;(try with_reducible rfl)
       try simp only[Act.put,sA,sB,sC]
       refine dV e9 ?_ _;have I5:=ae (T.o.FV (Hb.trans (Ext.alloc _ _)) (Cf.o.ext (Ext.alloc _ _)) Rs PZ.o IJ.o);have PB:=ae (GD.setCell (p:=⟨I.heap.size,0,none⟩) (ao _) (.slice a7 n7 q7));obtain⟨W8,U8⟩:=b9 (w7.setCell ⟨I.heap.size,0,none⟩ (.slice a7 n7 q7));rw[<-U8]at I5 PB;go_upto_region 20 with fail;rw[<-U8];clear U8 Qp cf7 l7;have b1:=aD I5.o.box;have p2:=Ext.j9 PB.o P2.o;have bf:=dp I5.o.box;have hl8:=mr I5.o.box;have Eg:=ae (show((List.range k).map fun i=>((Q+i:Nat):Int)).length=k by simp)
       go_wp2_with (first
        | (at_builtin;refine bu rfl _ _ rfl I.heap.size vb _ rfl (I5.o.b.ext (Ext.alloc _ _)) _ 1 _ [(Q:Int)+(k:Int)] rfl (Ints.CL _ _ _ _ e8) (by rw[Eg.o];omega) (by simp;omega) ?_;intro v9 w9 ho hg k9;obtain⟨a9,n9,q9,rfl,PS⟩:=ho.var;have FR:=ae ho;have PY:=ae hg;have BH:=I5.o.LI (Ext.alloc _ _) hg;have c09:=aD BH;have WO:=dp BH;have U5:Ext I w9:=ak (Ext.trans PB.o (Ext.alloc _ _)) hg (fun j hj=>(I5.o.b.lt j hj).1);clear ho hg k9 BH))
       have KF:=ae (I5.o.pushB (Ext.alloc _ _) PY.o FR.o);have IB:=ae (U5.setCell (p:=⟨I.heap.size,1,none⟩) (ao _) (.slice a9 n9 q9))
       go_roundg (g1-1)
       case measure=>have:=HK.o;omega
       case rel=>exact⟨k+1,_,_,_,ae (j1 HK.o),by go_num,ae (by
        have h1:=KF.o;rw[HRE.o,dm]at h1;have h2:((List.range k).map fun i=>((Q+i:Nat):Int))++[(Q:Int)+(k:Int)]=(List.range (k+1)).map fun i=>((Q+i:Nat):Int):=by
         rw[<-dm];simp
        rw[h2]at h1
        exact h1),IB⟩
  ·have zQ:nb=k:=by have:=HK.o;omega
   subst zQ;have J4:=ae (show AJ J I.heap.size Z vb vs (bV A B nc)by have:=T.o.own;unfold bV;rw[CG.o];exact this);have t0:=am T.o.box;have t1:=aD T.o.box;have t2:=aG T.o.box;obtain⟨a7,n7,c7,rfl,H9⟩:=T.o.a.var;obtain⟨a8,n8,c8,rfl,IL⟩:=T.o.b.var;have xw:=X1.o.trans HX.o;have r0:=am (xw.blk Af.o);have r1:=aD (xw.blk Af.o);have r2:=aG (xw.blk Af.o);have rf:=dp (xw.blk Af.o);have XW:=ae xw;clear xw;go_wp2_with fail;refine bR (v:=.agg #[.slice a7 n7 c7,.slice a8 n8 c8,.int .i64 (nc:Int)]) (by simp[results,Tryz.results106,go_sem,r0,r1,r2,rf]) rfl ⟨⟨_,_,vs,rfl,?_⟩,(y7.o.trans XW.o).CH (Cj _) _ _ _⟩;exact(J4.o.AL fun k hk=>dd _ _ _ _ _ _ e7).mono e7
end
section
variable{w:World}{ra:j6}{rc:Nat}{ba:j6}{bc:Nat}{t:Tb}{n m:Nat}{T0:Nat->Nat->Rat}
theorem M9(h:Hg w ra m rc ba m bc t)(hm:m<=1000)(Cu:t.r7=n)(Gz:∀i,i<m->(t.row i).length<=1048576):
 Calls Tryz.prog 260 #[Gw ra m rc ba m bc (n:Int)] w fun e w'=>(∃va vb vs,e=.returned (.agg #[va,vb,.int .i64 (n:Int)])/\AJ w' w.heap.size va vb vs t)/\Ext w w':=by
 have y9:=(Ext.alloc w (cj ra m rc ba m bc (n:Int))).trans (Ext.alloc _ (.cells #[.slice none 0 0,.slice none 0 0,.int .i64 0] 116));obtain⟨W,hW⟩:=b9 ((w.alloc (cj ra m rc ba m bc (n:Int))).alloc (.cells #[.slice none 0 0,.slice none 0 0,.int .i64 0] 116));rw[<-hW]at y9;have y7:=ae y9;have H:=ae (h.ext y9);have AX:=h.rows.l8;have B9:=h.rows.l9;have A1:=ae (show t.rows.length=m from h.rows.hlen);have AO:=ae (show t.basis.length=m from h.basis.hlen);have FI:=ae Cu;have Br:=ae Gz;have zf:=ae (show W.heap[w.heap.size]?=some (.cells #[.slice ra m rc,.slice ba m bc,.int .i64 (n:Int)] 116 (0,0))by rw[hW,aO _ _ _ e8];exact ai _ _ _ rfl);have Af:=ae (show W.heap[w.heap.size+1]?=some (.cells #[.slice none 0 0,.slice none 0 0,.int .i64 0] 116 (0,0))by rw[hW];exact ai _ _ _ e8);have CR:=ae (show W.heap.size=w.heap.size+1+1 by rw[hW];simp);have p1:=aD zf.o;have p2:=aG zf.o;clear h y9 Gz Cu;go_enter Tryz.func260,Tryz.ntmps260
 go_upto_region 1 with fail;rw[<-hW];clear hW
 go_cut [3] (fun s wx=>∃(g:Nat) (a3:j6) (Q c3:Nat),s=.pointer (some ⟨g,0,none⟩)/\b7 (Dz wx W.heap.size g (.slice none 0 0) (.slice a3 Q c3) (n:Int) [] [] t.basis)/\b7 (Ext W wx))
 case first =>
  have k7:Ext W W.drew:=Ext.drew W;have k8:=ae (fun(w':World) (h:Ext W w')=>(⟨h.j9 p1,h.j9 p2,h⟩:(fun w'=>w'.cell? ⟨w.heap.size,1,none⟩=some (.slice ba m bc)/\w'.cell? ⟨w.heap.size,2,none⟩=some (.int .i64 (n:Int))/\Ext W w') w'));refine rN (S:=(fun w'=>w'.cell? ⟨w.heap.size,1,none⟩=some (.slice ba m bc)/\w'.cell? ⟨w.heap.size,2,none⟩=some (.int .i64 (n:Int))/\Ext W w')) e9 ?_ (fun I=>?_)
  ·exact k8.o _ k7
  refine tk 1 ?_;refine tk 2 ?_;refine tk 4 ?_;refine tk 5 ?_;refine adl (rs:=[0,7]) e9 e8 ?_;refine abl (o:=?_) ?_ (fun K hK=>?_) ?_;rotate_left
  ·simp only[gA,gB,gC];rfl
  ·
   have k7:Ext W (W.alloc (.cells #[] 3)).drew:=(Ext.alloc _ _).trans (Ext.drew _);have O:=ae ((o4.Az W W.heap.size W.heap.size rfl (ao _)).ext (Ext.drew _));go_simp;refine hK.out _ _ ?_ (fun I=>?_)
   ·exact k8.o _ k7
   clear hK K
   try simp only[Act.put,sA,sB,sC]
   obtain⟨gi,UJ⟩:=b9 W.heap.size;obtain⟨J,Ix⟩:=b9 ((W.alloc (.cells #[] 3)).drew);rw[<-Ix]at k7 O;rw[show(Value.slice (some ⟨W.heap.size,0,none⟩) 0 0)=Value.slice (some ⟨gi,0,none⟩) 0 0 by rw[UJ]]at O;rw[<-Ix,<-UJ];clear Ix UJ I;refine adl (rs:=[3,7]) e9 e8 ?_;refine abl (o:=?_) ?_ (fun K hK=>?_) ?_;rotate_left
   ·simp only[gA,gB,gC];rfl
   ·
    refine bI _ j0 ?_;refine bF _ _ j0 W.heap.size (.slice (some ⟨gi,0,none⟩) 0 0) [] j0 O.o ba m bc t.basis j0 (H.o.ext k7).basis (by simp;omega) k7.size ?_;intro v3 w3 Av EZ Ff;obtain⟨a3,Q,c3,rfl,Ia⟩:=Av.var;have zi:=ae (show o4 w3 W.heap.size (.slice a3 Q c3) t.basis by simpa using Av);have zm:=Ext.grown k7 EZ (fun j hj=>(O.o.lt j hj).1);go_wp2_with fail;refine hK.out _ _ ?_ (fun I=>?_)
    ·exact k8.o _ zm
    clear hK K
    try simp only[Act.put,sA,sB,sC]
    have k7:=zm;refine tk 6 ?_;have Ox:=k7.size;have k7:=k7.trans (Ext.alloc w3 (.cells #[.slice none 0 0,.slice none 0 0,.int .i64 0] 116));have G:=ae (show(w3.alloc (.cells #[.slice none 0 0,.slice none 0 0,.int .i64 0] 116)).heap[w3.heap.size]?=some (.cells #[.slice none 0 0,.slice none 0 0,.int .i64 0] 116 (0,0))from L' w3 _);refine rd (i:=7) (h:=fun K hK=>?_);go_simp;refine hK.out _ _ ?_ (fun I=>?_)
    ·exact k8.o _ k7
    clear hK K
    try simp only[Act.put,sA,sB,sC]
    obtain⟨gt,U⟩:=b9 w3.heap.size;obtain⟨W9,Z⟩:=b9 (w3.alloc (.cells #[.slice none 0 0,.slice none 0 0,.int .i64 0] 116));have HK9:=ae (show Ext w3 W9 by rw[Z];exact Ext.alloc _ _);rw[<-Z]at k7;rw[<-Z,<-U]at G;rw[<-Z,<-U];have CQ:W.heap.size<=gt:=by rw[U];exact Ox
    clear Z U I Ox;have zi:=ae (zi.o.ext HK9.o);have Dy:=am G.o;have Dx:=aD G.o;have ZD:=aG G.o;have ZB:=dp G.o;refine rd (i:=8) (h:=fun K hK=>?_);go_simp;refine hK.out _ _ ?_ (fun I=>?_)
    ·exact k8.o _ (Ext.CH k7 CQ _ _ _)
    clear hK K
    try simp only[Act.put,sA,sB,sC]
    refine Gh e9 ?_ _;go_wp2_with fail;go_meet;exact⟨gt,a3,Q,c3,rfl,ae (Dz.Q1 G.o zi.o (ao _) CQ),ae (Ext.CH k7 CQ _ _ _)⟩
   refine abl (o:=?_) ?_ (fun K hK=>?_) ac6;rotate_left
   ·simp only[gA,gB,gC];rfl
   have Ox:=k7.size;have k7:=k7.trans (Ext.alloc J (.cells #[.slice none 0 0,.slice none 0 0,.int .i64 0] 116));have G:=ae (show(J.alloc (.cells #[.slice none 0 0,.slice none 0 0,.int .i64 0] 116)).heap[J.heap.size]?=some (.cells #[.slice none 0 0,.slice none 0 0,.int .i64 0] 116 (0,0))from L' J _);go_simp;refine hK.out _ _ ?_ (fun I=>?_)
   ·exact k8.o _ k7
   clear hK K
   try simp only[Act.put,sA,sB,sC]
   obtain⟨gt,U⟩:=b9 J.heap.size;obtain⟨W9,Z⟩:=b9 (J.alloc (.cells #[.slice none 0 0,.slice none 0 0,.int .i64 0] 116));have HK9:=ae (show Ext J W9 by rw[Z];exact Ext.alloc _ _);rw[<-Z]at k7;rw[<-Z,<-U]at G;rw[<-Z,<-U];have CQ:W.heap.size<=gt:=by rw[U];exact Ox
   clear Z U I Ox;have O:=ae (O.o.ext HK9.o);refine rd (i:=3) (h:=fun K hK=>?_);refine bI _ j0 ?_;refine bF _ _ j0 W.heap.size (.slice (some ⟨gi,0,none⟩) 0 0) [] j0 O.o ba m bc t.basis j0 (H.o.ext k7).basis (by simp;omega) k7.size ?_;intro v3 w3 Av EZ Ff;obtain⟨a3,Q,c3,rfl,Ia⟩:=Av.var;have zi:=ae (show o4 w3 W.heap.size (.slice a3 Q c3) t.basis by simpa using Av);have zm:=Ext.grown k7 EZ (fun j hj=>(O.o.lt j hj).1);have G:=ae ((EZ.block gt (mr G.o) (au O.o G.o (by decide))).trans G.o);go_wp2_with fail;refine hK.out _ _ ?_ (fun I=>?_)
   ·exact k8.o _ zm
   clear hK K
   try simp only[Act.put,sA,sB,sC]
   have k7:=zm;refine tk 6 ?_;have Dy:=am G.o;have Dx:=aD G.o;have ZD:=aG G.o;have ZB:=dp G.o;refine rd (i:=8) (h:=fun K hK=>?_);go_simp;refine hK.out _ _ ?_ (fun I=>?_)
   ·exact k8.o _ (Ext.CH k7 CQ _ _ _)
   clear hK K
   try simp only[Act.put,sA,sB,sC]
   refine Gh e9 ?_ _;go_wp2_with fail;go_meet;exact⟨gt,a3,Q,c3,rfl,ae (Dz.Q1 G.o zi.o (ao _) CQ),ae (Ext.CH k7 CQ _ _ _)⟩
  refine abl (o:=?_) ?_ (fun K hK=>?_) ac6;rotate_left
  ·simp only[gA,gB,gC];rfl
  have k7:Ext W (W.alloc (.cells #[.slice none 0 0,.slice none 0 0,.int .i64 0] 116)).drew:=(Ext.alloc _ _).trans (Ext.drew _);have G:=ae (show(W.alloc (.cells #[.slice none 0 0,.slice none 0 0,.int .i64 0] 116)).drew.heap[W.heap.size]?=some (.cells #[.slice none 0 0,.slice none 0 0,.int .i64 0] 116 (0,0))from L' W _);go_simp;refine hK.out _ _ ?_ (fun I=>?_)
  ·exact k8.o _ k7
  clear hK K
  try simp only[Act.put,sA,sB,sC]
  obtain⟨gt,U⟩:=b9 W.heap.size;obtain⟨J,Ix⟩:=b9 ((W.alloc (.cells #[.slice none 0 0,.slice none 0 0,.int .i64 0] 116)).drew);rw[<-Ix]at k7;rw[<-Ix,<-U]at G;rw[<-Ix,<-U];have CQ:W.heap.size<=gt:=aas U.symm;clear Ix U I;have O:=ae (o4.Az J W.heap.size J.heap.size rfl k7.size);have k7:=k7.trans (Ext.alloc J (.cells #[] 3));refine rd (i:=0) (h:=fun K hK=>?_);go_simp;refine hK.out _ _ ?_ (fun I=>?_)
  ·exact k8.o _ k7
  clear hK K
  try simp only[Act.put,sA,sB,sC]
  obtain⟨gi,UJ⟩:=b9 J.heap.size;obtain⟨W2,EM⟩:=b9 (J.alloc (.cells #[] 3));rw[<-EM]at k7 O;rw[show(Value.slice (some ⟨J.heap.size,0,none⟩) 0 0)=Value.slice (some ⟨gi,0,none⟩) 0 0 by rw[UJ]]at O;have G:=ae (show W2.heap[gt]?=some (.cells #[.slice none 0 0,.slice none 0 0,.int .i64 0] 116 (0,0))by rw[EM];exact(Ext.alloc J (.cells #[] 3)).blk G.o);rw[<-EM,<-UJ];clear EM UJ I;refine rd (i:=3) (h:=fun K hK=>?_);refine bI _ j0 ?_;refine bF _ _ j0 W.heap.size (.slice (some ⟨gi,0,none⟩) 0 0) [] j0 O.o ba m bc t.basis j0 (H.o.ext k7).basis (by simp;omega) k7.size ?_;intro v3 w3 Av EZ Ff;obtain⟨a3,Q,c3,rfl,Ia⟩:=Av.var;have zi:=ae (show o4 w3 W.heap.size (.slice a3 Q c3) t.basis by simpa using Av);have zm:=Ext.grown k7 EZ (fun j hj=>(O.o.lt j hj).1);have G:=ae ((EZ.block gt (mr G.o) (au O.o G.o (by decide))).trans G.o);go_wp2_with fail;refine hK.out _ _ ?_ (fun I=>?_)
  ·exact k8.o _ zm
  clear hK K
  try simp only[Act.put,sA,sB,sC]
  have k7:=zm;refine tk 6 ?_;have Dy:=am G.o;have Dx:=aD G.o;have ZD:=aG G.o;have ZB:=dp G.o;refine rd (i:=8) (h:=fun K hK=>?_);go_simp;refine hK.out _ _ ?_ (fun I=>?_)
  ·exact k8.o _ (Ext.CH k7 CQ _ _ _)
  clear hK K
  try simp only[Act.put,sA,sB,sC]
  refine Gh e9 ?_ _;go_wp2_with fail;go_meet;exact⟨gt,a3,Q,c3,rfl,ae (Dz.Q1 G.o zi.o (ao _) CQ),ae (Ext.CH k7 CQ _ _ _)⟩
 obtain⟨g,a3,Q,c3,rfl,HT,yZ⟩:=hcut;clear p1 p2;go_wp2_with fail
 go_loopg [4] m (fun gk ii wr=>∃(k:Nat) (va:Value) (vs:List Value),b7 (gk+k=m)/\ii=.int .i64 (k:Int)/\b7 (Dz wr W.heap.size g va (.slice a3 Q c3) (n:Int) vs (t.rows.take k) t.basis)/\b7 (Ext W wr))
 case atStart=>exact⟨0,_,_,ae e7,rfl,HT,yZ⟩
 case round =>
  obtain⟨g1,o7⟩:=b9 gk;subst o7;obtain⟨o6,o5⟩:=b9 wr;subst o5;obtain⟨k,va,vs,HK,rfl,T,HX⟩:=hrel;have p0:=am (HX.o.blk zf.o);by_cases hlt:k<m
  ·obtain⟨zb,zL,za,zn,zc,Dp,AU,o8⟩:=(H.o.ext HX.o).rows.at hlt;subst Dp;have Lp:zn<=1048576:=by rw[<-o8.hlen];exact Br.o k hlt
   have CA:=ae o8;have t0:=am T.o.box;have I1:=T.o.lt;have Rr:=HX.o.size;have AM:=ae (show vs.length=k by rw[T.o.rows.len,FX];have h2:=A1.o;omega);have Fu:(0:Int)<=(k:Int):=by omega
   have BR:(k:Int)<(m:Int):=by omega
   have P0:=ae p0;obtain⟨zb',MF,za',Wa,zc',F0,NR,Ym⟩:=H.o.rows.at hlt;simp only[bA,mq,zz]at F0;obtain⟨rfl,rfl⟩:=F0;have T9:=AU.symm.trans (HX.o.j9 NR);simp only[bA,C']at T9;obtain⟨rfl,rfl,rfl⟩:=T9;have Hzz:=ae (fun(w':World) (hx:Ext W w')=>hx.j9 NR);clear Ym NR;clear o8;go_upto_region 5 with fail;have EY:Ext o6 o6.drew:=Ext.drew o6;have k8:=ae (fun(w':World) (h:Ext o6 w')=>(⟨h.j9 t0,h.j9 p0,h.j9 AU,HX.o.trans h⟩:w'.cell? ⟨g,0,none⟩=some va/\w'.cell? ⟨w.heap.size,0,none⟩=some (.slice (some ⟨zb,zL,none⟩) m rc)/\w'.cell? ⟨zb,zL+k,none⟩=some (.slice za zn zc)/\Ext W w'));refine dD (M:=[11]) (S:=fun w'=>w'.cell? ⟨g,0,none⟩=some va/\w'.cell? ⟨w.heap.size,0,none⟩=some (.slice (some ⟨zb,zL,none⟩) m rc)/\w'.cell? ⟨zb,zL+k,none⟩=some (.slice za zn zc)/\Ext W w') e9 ?_;have I:=k8.o _ EY;refine lp 0 ?_;refine ll 1 ?_;refine lp 2 ?_;refine ll 3 ?_;refine lp 4 ?_;refine lp 5 ?_;refine ll 6 ?_;refine bg (i:=7) (oi:=?_) ?_ ?_ ?_ (fun K hK=>?_);rotate_left
   ·simp only[gA,gB,gC];rfl
   ·kernel_rfl
   ·kernel_rfl
   go_simp;go_at_call 109;refine(nM (CA.o.ext EY) e7).mono ?_;rintro e w5 ⟨⟨v5,rfl,Fe⟩,AK⟩;have Ei:=ae EY.size;have EY:Ext o6 w5:=EY.trans AK;obtain⟨a5,n5,c5,rfl,CF⟩:=Fe.var;have zW:=ae (show o0 w5 o6.heap.size (.slice a5 n5 c5) _ from Fe.mono Ei.o);have EK:=EY.size;clear Fe;go_wp2_with fail;refine hK.out _ _ (fun _=>k8.o _ EY) ?_;have I:=k8.o _ EY;clear hK K
   try simp only[Act.put,sA,sB,sC]
   refine bg (i:=8) (oi:=?_) ?_ ?_ ?_ (fun K hK=>?_);rotate_left
   ·simp only[gA,gB,gC];rfl
   ·kernel_rfl
   ·kernel_rfl
   go_simp;refine hK.out _ _ (fun _=>k8.o _ (EY.trans (Ext.alloc _ _))) ?_;clear hK K
   try simp only[Act.put,sA,sB,sC]
   refine bg (i:=9) (oi:=?_) ?_ ?_ ?_ (fun K hK=>?_);rotate_left
   ·simp only[gA,gB,gC];rfl
   ·kernel_rfl
   ·kernel_rfl
   refine eZ _ _ j0 W.heap.size va vs j0 ((T.o.a.ext EY).ext (Ext.alloc _ _)) _ _ 1 j0 (by simp;rfl) rfl (by rw[AM.o];omega) (by simp;omega) ?_;intro v7 w7 ho hg k9;obtain⟨a7,n7,q7,rfl,H9⟩:=ho.var;have IJ:=ae ho;have PZ:=ae hg;have BH:=T.o.Kz (EY.trans (Ext.alloc _ _)) hg;have Qp:=am BH;have cf7:=dp BH;have GD:Ext W w7:=ak ((HX.o.trans EY).trans (Ext.alloc _ _)) hg (fun j hj=>(T.o.a.lt j hj).1);have hZ7:=ae (show w7.cell? ⟨zb,zL+k,none⟩=some (.slice za zn zc)from Hzz.o _ GD);clear ho hg k9 BH;refine hK.out _ _ (fun _=>JH Qp (JH (Ext.j9 GD (am zf.o)) (JH hZ7.out GD))) ?_;have I:=JH Qp (JH (Ext.j9 GD (am zf.o)) (JH hZ7.out GD));clear hK K
   try simp only[Act.put,sA,sB,sC]
   refine lp 10 ?_;refine dM (i:=11) (oi:=?_) (w':=?_) ?_ ?_ ?_ ?_ ?_ ?_ ?_;rotate_left 2
   ·simp only[gA,gB,gC];rfl
   ·kernel_rfl
   ·kernel_rfl
   ·exact EE e9
   ·rfl
   ·go_simp;(try with_reducible rfl)
   try simp only[Act.put,sA,sB,sC]
   refine dV e9 ?_ _;have J4:=ae (T.o.FV (EY.trans (Ext.alloc _ _)) (zW.o.ext (Ext.alloc _ _)) Rr PZ.o IJ.o);have IB:=ae (GD.setCell (p:=⟨g,0,none⟩) T.o.hg (.slice a7 n7 q7));go_wp2_with fail
   go_roundg (g1-1)
   case measure=>have:=HK.o;omega
   case rel=>exact⟨k+1,_,_,ae (j1 HK.o),by go_num,ae (by have:=J4.o;rw[<-eF (by have h2:=A1.o;omega)]at this;exact this),IB⟩
  ·have zQ:m=k:=by have:=HK.o;omega
   subst zQ;have H7:=ae (show t.rows.take m=t.rows from p4 (aas A1.o))
   have J4:=ae (show AJ o6 W.heap.size va (.slice a3 Q c3) vs t by
    have h1:=T.o.own
    rw[H7.o,<-FI.o]at h1;exact h1)
   have t0:=am T.o.box;have t1:=aD T.o.box;have t2:=aG T.o.box;obtain⟨a7,n7,c7,rfl,H9⟩:=T.o.a.var;have q0:=HX.o.blk Af.o;have r0:=am q0;have r1:=aD q0;have r2:=aG q0;have rf:=dp q0;have KW:=CR.o;have Rr:=HX.o.size;clear q0;go_wp2_with fail;refine bR (v:=.agg #[.slice a7 n7 c7,.slice a3 Q c3,.int .i64 (n:Int)]) (by simp[results,Tryz.results260,go_sem,r0,r1,r2,rf]) rfl ⟨⟨_,_,vs,rfl,?_⟩,?_⟩
   ·exact(J4.o.AL fun k hk=>dd _ _ _ _ _ _ e7).mono e7
   ·exact(y7.o.trans HX.o).CH (Cj _) _ _ _
end
theorem xA(a:j8)(q:Int):(AW a (0,q)).2=false:=by
 unfold AW
 split
 ·unfold aI;rw[hI (aaJ e8)]
 ·rfl
section
variable{w:World}{ra:j6}{rc:Nat}{ba:j6}{bc:Nat}{t:Tb}{n m:Nat}{T0:Nat->Nat->Rat}
theorem Ak.args(h:Ak n m T0 t)(hn:n<=1000){r c:Nat}(hr:r<m)(hc:c<n+m):ep t (r:Int) (c:Int)=true:=by
 unfold ep;rw[h.ok hn,h.r7,h.len];unfold r9;simp;omega
theorem wJ(h:Ak n m T0 t)(hn:n<=1000){r c:Nat}(hr:r<m)(hc:c<n+m){q:Int}(hp:t.at r c=(0,q)):bJ t (r:Int) (c:Int)=none:=by
 rw[ks (h.args hn hr hc)];refine kr ?_;unfold Dw;rw[(h.row r hr).1];refine oW (k:=1) ?_ e7;simp only[runT,G3];unfold Gk;rw[hp,xA]
 rfl
theorem pU(h:Hg w ra m rc ba m bc t)(Z:Ak n m T0 t)(hn:n<=1000)(hm:m<=1000){r c:Nat}(hr:r<m)(hc:c<n):
 Calls Tryz.prog 243 #[Gw ra m rc ba m bc (n:Int),.int .i64 (r:Int),.int .i64 (c:Int)] w fun e w'=>LK w' w.heap.size e (dL t (r:Int) (c:Int)) (bJ t (r:Int) (c:Int)).isSome/\Ext w w':=by
 have y9:=(Ext.alloc w (cj ra m rc ba m bc (n:Int))).trans (Ext.alloc _ (.cells #[.slice none 0 0,.slice none 0 0,.int .i64 0] 116));obtain⟨W,hW⟩:=b9 ((w.alloc (cj ra m rc ba m bc (n:Int))).alloc (.cells #[.slice none 0 0,.slice none 0 0,.int .i64 0] 116));rw[<-hW]at y9;have y7:=ae y9;have H:=ae (h.ext y9);have AX:=h.rows.l8;have B9:=h.rows.l9;have HT:=ae Z;have A1:=ae (show t.rows.length=m from Z.len);have FI:=ae Z.r7;have zf:=ae (show W.heap[w.heap.size]?=some (.cells #[.slice ra m rc,.slice ba m bc,.int .i64 (n:Int)] 116 (0,0))by rw[hW,aO _ _ _ e8];exact ai _ _ _ rfl);have Af:=ae (show W.heap[w.heap.size+1]?=some (.cells #[.slice none 0 0,.slice none 0 0,.int .i64 0] 116 (0,0))by rw[hW];exact ai _ _ _ e8);have CR:=ae (show W.heap.size=w.heap.size+1+1 by rw[hW];simp);have HG:=ae (ky H.o Z hn hm);have CV:=ae (fun(w':World) (hx:Ext W w')=>M9 (H.o.ext hx) hm Z.r7 (fun i hi=>by rw[(Z.row i hi).1];omega));have Hp:=ae (fun w'=>aZ (r:Int) 0 ((m:Int)-1) w');rw[show r9 (r:Int) 0 ((m:Int)-1)=true by unfold r9;simp;omega]at Hp;have J8:=ae (fun w'=>aZ (c:Int) 0 ((n:Int)+(m:Int)-1) w');rw[show r9 (c:Int) 0 ((n:Int)+(m:Int)-1)=true by unfold r9;simp;omega]at J8;have GX:IntKind.i64.wrap ((n:Int)+(m:Int))=(n:Int)+(m:Int):=by rw[cn];omega
 have Gx:IntKind.i64.wrap ((n:Int)+(m:Int)-1)=(n:Int)+(m:Int)-1:=by rw[cn];omega
 have IW:IntKind.i64.wrap ((m:Int)-1)=(m:Int)-1:=by rw[cn];omega
 have ZH:=ae (show bJ t (r:Int) (c:Int)=gJ t r c from ks (Z.args hn hr e7));have HZP:=ae (fun(q:Int) (hp:t.at r c=(0,q))=>wJ Z hn hr (show c<n+m by omega) hp);obtain⟨u,hu⟩:=b9 (n+m+1);have Br:=ae (show∀i,i<m->(t.row i).length=u by intro i hi;rw[hu];exact(Z.row i hi).1);have Qn:c<u:=by omega
 have Wl:u<=2001:=by omega
 have hrr:(r:Int)<(m:Int):=by omega
 have A':(0:Int)<=(r:Int):=by omega
 have AB:(0:Int)<=(c:Int):=by omega
 have hcI:(c:Int)<(u:Int):=by omega
 obtain⟨zb,zL,za,zn,zc,Dp,NR,o8⟩:=H.o.rows.at hr;subst Dp;have Lp:zn=u:=by rw[<-o8.hlen];exact Br.o r hr
 subst Lp;have hrc1:=o8.l8;have hrc2:=o8.l9;have CA:=ae (show Rats W za zn zc (t.row r)from o8);have LM:=ae NR;obtain⟨pb,Ke,pp,pq,hpa,D5,F7,G9⟩:=o8.at Qn;subst hpa;have EC:=ae F7;have EN:=ae G9;have FD:=ae (show t.at r c=(pp,pq)from D5);clear h Z y9 hu D5 o8;go_enter Tryz.func243,Tryz.ntmps243
 go_upto_region 1 with fail;rw[<-hW];clear hW;have p0:=am zf.o;have p1:=aD zf.o;have p2:=aG zf.o;go_wp2_with fail;refine HG.o.mono ?_;rintro e w1 ⟨rfl,hx⟩;have X1:=ae hx;clear hx p0 p1 p2 NR F7 G9;have p0:=am (X1.o.blk zf.o);have p1:=aD (X1.o.blk zf.o);have p2:=aG (X1.o.blk zf.o);have AU:=X1.o.j9 LM.o;have k0:=X1.o.j9 EC.o;by_cases hpz:pp=0
 ·have HN:=ae (show bJ t (r:Int) (c:Int)=none from HZP.o pq (by rw[FD.o,hpz]));subst hpz;go_wp2_with fail;refine(Hp.o _).mono ?_;rintro e w1' ⟨rfl,rfl⟩;go_wp2_with fail;refine(J8.o _).mono ?_;rintro e w1' ⟨rfl,rfl⟩;go_wp2_with fail;refine(CV.o _ X1.o).mono ?_;rintro e w8 ⟨⟨va8,vb8,QL,rfl,J⟩,hx⟩;have I:=ae (X1.o.trans hx);have J7:=ae J;obtain⟨a7,n7,c7,rfl,H9⟩:=J.a.var;obtain⟨a8,n8,c8,rfl,IL⟩:=J.b.var;have r0:=am (I.o.blk Af.o);have r1:=aD (I.o.blk Af.o);have r2:=aG (I.o.blk Af.o);have rf:=dp (I.o.blk Af.o);have hsz:=X1.o.size;have KW:=CR.o;clear hx J p0 p1 p2;go_wp2_with fail;refine bR (v:=.tuple #[.agg #[.slice a7 n7 c7,.slice a8 n8 c8,.int .i64 (n:Int)],.bool false]) (by simp[results,acJ,go_sem,r0,r1,r2,rf]) rfl ⟨?_,(y7.o.trans I.o).CH (Cj _) _ _ _⟩;refine⟨.slice a7 n7 c7,.slice a8 n8 c8,QL,?_,?_⟩
  ·unfold dL;rw[HN.o,aaa,FI.o];rfl
  ·unfold dL;rw[HN.o,aaa];exact(J7.o.AL fun k hk=>dd _ _ _ _ _ _ e7).mono e7
 ·have hppz:(pp == 0)=false:=by simpa using hpz
  clear hpz;go_wp2_with fail;refine(Hp.o _).mono ?_;rintro e w1' ⟨rfl,rfl⟩;go_wp2_with fail;refine(J8.o _).mono ?_;rintro e w1' ⟨rfl,rfl⟩;go_wp2_with fail;refine(CV.o _ X1.o).mono ?_;rintro e w2 ⟨⟨va,vb,vs,rfl,ho⟩,hx⟩;have X2:=ae (X1.o.trans hx);obtain⟨aa,na,ca,rfl,Tw⟩:=ho.a.var;obtain⟨ab,nb,cb,rfl,IK⟩:=ho.b.var;obtain rfl:m=na:=by have h1:=ho.rows.len;have h3:=A1.o;have h4:=Tw.o;omega
  obtain rfl:m=nb:=by have h1:=IK.o;have h2:=HT.o.De;omega
  obtain⟨G,hG,_,_⟩:=ho.a.cell hr;subst hG;obtain⟨B,hB,_,_,_⟩:=ho.b.block hr;subst hB;obtain⟨E,hE⟩:=b9 (w2.alloc (.cells #[.slice (some ⟨G,0,none⟩) m ca,.slice (some ⟨B,0,none⟩) m cb,.int .i64 (n:Int)] 116));obtain⟨gE,S5⟩:=b9 w2.heap.size;have B0:Ext w2 E:=by rw[hE];exact Ext.alloc _ _
  have UZ:w1.heap.size<=gE:=by rw[S5];exact hx.size
  have Mz:=ae (show FB E w1.heap.size gE G m ca (.slice (some ⟨B,0,none⟩) m cb) (n:Int) vs t.rows t.basis from
   ⟨by rw[hE,S5];exact ai _ _ _ rfl,UZ,⟨ho.a.ext B0,ho.rows.ext B0⟩,ho.b.ext B0⟩)
  have ZE:=ae (hx.trans B0);have XE:=ae (X1.o.trans ZE.o);have Ur:w.heap.size+1+1<=w1.heap.size:=by have:=X1.o.size;have:=CR.o;omega
  clear ho p0 p1 p2 hx AU k0;go_upto_region 4 with fail;rw[<-hE,<-S5];clear hE S5 B0;have p0:=am (XE.o.blk zf.o);have AU:=XE.o.j9 LM.o;have k0:=XE.o.j9 EC.o;have k1:=XE.o.j9 EN.o;have L4:=ae (Br.o r hr);obtain⟨dv,DJ⟩:=b9 (Dw (t.row r) (pp,pq));have Fa:=ae (show Dw (t.row r) (t.at r c)=dv by rw[FD.o,DJ]);have JS:=ae (fun(w':World) (hx:Ext E w')=>wW (k1:=pp) (k2:=pq) (CA.o.ext (XE.o.trans hx)) e7);simp only[<-DJ]at JS;clear DJ;have k7:Ext E E.drew:=Ext.drew E;have k8:=ae (fun(w':World) (h:Ext E w')=>(⟨h.j9 p0,h.j9 AU,h.j9 k0,h.j9 k1,h⟩:w'.cell? ⟨w.heap.size,0,none⟩=some (.slice (some ⟨zb,zL,none⟩) m rc)/\w'.cell? ⟨zb,zL+r,none⟩=some (.slice (some ⟨pb,Ke,none⟩) zn zc)/\w'.cell? ⟨pb,Ke+c*2,none⟩=some (.int .i64 pp)/\w'.cell? ⟨pb,Ke+c*2+1,none⟩=some (.int .i64 pq)/\Ext E w'));refine rN (S:=(fun w'=>w'.cell? ⟨w.heap.size,0,none⟩=some (.slice (some ⟨zb,zL,none⟩) m rc)/\w'.cell? ⟨zb,zL+r,none⟩=some (.slice (some ⟨pb,Ke,none⟩) zn zc)/\w'.cell? ⟨pb,Ke+c*2,none⟩=some (.int .i64 pp)/\w'.cell? ⟨pb,Ke+c*2+1,none⟩=some (.int .i64 pq)/\Ext E w')) e9 ?_ (fun l7=>?_)
  ·exact k8.o _ k7
  refine tk 0 ?_;refine tk 1 ?_;refine tk 2 ?_;refine tk 3 ?_;refine tk 4 ?_;refine tk 5 ?_;refine tk 6 ?_;refine tk 7 ?_;refine tk 8 ?_;refine tk 9 ?_;refine tk 10 ?_;refine tk 11 ?_;refine tk 12 ?_;refine rd (i:=13) (h:=fun K hK=>?_);go_simp
  (go_at_call 261;refine(JS.o _ k7).mono ?_;rintro e w5 ⟨⟨v5,rfl,Fe⟩,AK⟩;have EK:=k7.size;have k7:=k7.trans AK;obtain⟨a5,n5,c5,rfl,CF⟩:=Fe.var)
  go_wp2_with fail;refine hK.out _ _ ?_ (fun l7=>?_)
  ·exact k8.o _ k7
  clear hK K
  try simp only[Act.put,sA,sB,sC]
  refine tk 14 ?_;refine tk 15 ?_;refine tk 16 ?_;refine tk 17 ?_;refine tk 18 ?_;refine Gh e9 ?_ _;have X5:=ae (XE.o.trans k7);have WQ:=ae (ZE.o.trans k7);have V7:=ae k7;have zW:=ae (Fe.mono EK);clear k7 Fe p0 AU k0 k1;cases dv with
  | none =>
    have HN:=ae (show bJ t (r:Int) (c:Int)=none by rw[ZH.o];exact kr Fa.o);have p0:=am (X5.o.blk zf.o);have p1:=aD (X5.o.blk zf.o);have p2:=aG (X5.o.blk zf.o);go_wp2_with fail;refine(CV.o _ X5.o).mono ?_;rintro e w8 ⟨⟨va8,vb8,QL,rfl,J⟩,hx⟩;have I:=ae (X5.o.trans hx);have J7:=ae J;obtain⟨a7,n7,c7,rfl,H9⟩:=J.a.var;obtain⟨a8,n8,c8,rfl,IL⟩:=J.b.var;have r0:=am (I.o.blk Af.o);have r1:=aD (I.o.blk Af.o);have r2:=aG (I.o.blk Af.o);have rf:=dp (I.o.blk Af.o);have hsz:=X5.o.size;have KW:=CR.o;clear hx J p0 p1 p2;go_wp2_with fail;refine bR (v:=.tuple #[.agg #[.slice a7 n7 c7,.slice a8 n8 c8,.int .i64 (n:Int)],.bool false]) (by simp[results,acJ,go_sem,r0,r1,r2,rf]) rfl ⟨?_,(y7.o.trans I.o).CH (Cj _) _ _ _⟩;refine⟨.slice a7 n7 c7,.slice a8 n8 c8,QL,?_,?_⟩
    ·unfold dL;rw[HN.o,aaa,FI.o];rfl
    ·unfold dL;rw[HN.o,aaa];exact(J7.o.AL fun k hk=>dd _ _ _ _ _ _ e7).mono e7
  | some mm =>
    have PN:=ae (show bJ t (r:Int) (c:Int)=(A8 t r c mm m).map fun rs=>⟨rs,t.basis.set r (c:Int),(n:Int)⟩by
     rw[ZH.o,mL Fa.o,A1.o,FI.o])
    have Xb:=ae (show o0 w5 E.heap.size (.slice a5 n5 c5) mm from zW.o);have L5:=ae (show mm.length=zn by have h1:=Fa.o;unfold Dw at h1;rw[L4.o]at h1;exact dO h1);have D':=ae (Mz.o.ext V7.o);have c8:=D'.o.c0;obtain⟨G',U,Gf,Tf⟩:=D'.o.m.own.cell hr;simp only[bA,mq,zz]at U;subst U;have UI:w5.cell? ⟨G,r,none⟩=some (vs[r]?.getD undef):=by
     rw[Tf r hr];have:r<vs.length:=by rw[D'.o.m.BW];exact hr
     simp[this]
    obtain⟨G',U,_,_,H5⟩:=D'.o.m.outer e7;simp only[bA,mq,zz]at U;subst U;have HE1s:=ae (show w1.heap.size<=E.heap.size from ZE.o.size);have KK:=ae (Mz.o.put V7.o HE1s.o Xb.o hr)
    have Z7:=ae (show o0 (w5.setCell ⟨G,r,none⟩ (.slice a5 n5 c5)) E.heap.size (.slice a5 n5 c5) mm from
     Xb.o.keep fun k hk=>bB _ _ _ _ fun e=>bh (by decide) Xb.o D'.o.m.own k hk (by subst e;rfl))
    have E8:=ae (WQ.o.setCell (p:=⟨G,r,none⟩) Gf (.slice a5 n5 c5));clear Tf;go_upto_region 8 with fail;obtain⟨w6,F1⟩:=b9 (w5.setCell ⟨G,r,none⟩ (.slice a5 n5 c5));rw[<-F1]at KK Z7 E8;rw[<-F1];clear F1 c8 UI H5 Gf;have p0:=am ((X1.o.trans E8.o).blk zf.o);go_wp2_with fail
    go_loopg [11] m (fun gk ii wr=>∃(k:Nat) (O:List Value) (M:List (j4)),b7 (gk+k=m)/\ii=.int .i64 (k:Int)/\b7 (A8 t r c mm k=some M)/\b7 (FB wr w1.heap.size gE G m ca (.slice (some ⟨B,0,none⟩) m cb) (n:Int) O M t.basis)/\b7 (o0 wr E.heap.size (.slice a5 n5 c5) mm)/\b7 (Ext w1 wr))
    case atStart=>exact⟨0,_,_,ae e7,rfl,ae rfl,KK,Z7,E8⟩
    case round =>
     obtain⟨g2,Am⟩:=b9 gk;subst Am;obtain⟨Q,zx⟩:=b9 wr;subst zx;obtain⟨k,O,M,KM,rfl,I8,Dh,As,zt⟩:=hrel;clear p0;have p0:=am ((X1.o.trans zt.o).blk zf.o);have hsr2:=zt.o.size;by_cases Ah:k<m
     ·obtain⟨zb2,Xk,ya,yn,yc,NQ,T',Dr⟩:=(H.o.ext (X1.o.trans zt.o)).rows.at Ah;simp only[bA,mq,zz]at NQ;obtain⟨rfl,rfl⟩:=NQ;obtain rfl:zn=yn:=by rw[<-Dr.hlen];exact(Br.o k Ah).symm
      have Mw:=ae (show Rats Q ya zn yc (t.row k)from Dr);obtain⟨yb,zE,p,q,ET,zR,BG,An⟩:=Mw.o.at Qn;subst ET;have Ay:=ae (show t.at k c=(p,q)from zR);have hyk1:=Dr.l8;have hyk2:=Dr.l9;have HZK:=ae T';have Kj:IntKind.i64.wrap (-p)=-p:=by
       have h1:=(HT.o.bounds.2 k c).1;have h2:=(HT.o.bounds.2 k c).2;rw[Ay.o]at h1 h2;rw[cn];simp only at h1 h2;omega
      clear zR Dr;have Gp:=ae (show decide (k=r∨t.at k c=(0,1))=(decide (k=r)||((p == 0)&&(q == 1)))by rw[Ay.o,U9];simp);obtain⟨E3,hE3⟩:=b9 (Q.alloc (.cells #[.int .i64 p,.int .i64 q] 62));obtain⟨gx,hgx⟩:=b9 Q.heap.size;have Au:=ae (show ah Q E3 gx p q by rw[hE3,hgx];exact ah.new (Ext.refl _) _ _);go_upto_region 12 with fail;rw[<-hE3,<-hgx];clear hE3 hgx p0 BG An T';have b0:=Au.o.c0;have b1:=Au.o.c1
      go_cut [103] (fun TV wx=>TV=.bool (decide (k=r∨t.at k c=(0,1)))/\b7 (Ext E3 wx))
      case first =>
       have k7:Ext E3 E3.drew:=Ext.drew E3;by_cases hkr:k=r
       ·have heq:((k:Int) == (r:Int))=true:=by simp;omega
        have Sv:=ae (show decide (k=r∨t.at k c=(0,1))=true by rw[Gp.o,z' hkr];rfl);clear hkr;refine rN (S:=(fun w'=>w'.cell? ⟨gx,0,none⟩=some (.int .i64 p)/\w'.cell? ⟨gx,1,none⟩=some (.int .i64 q)/\Ext E3 w')) e9 ?_ (fun l7=>?_)
        ·exact⟨k7.j9 b0,k7.j9 b1,k7⟩
        refine tk 0 ?_;refine tk 1 ?_;refine tk 2 ?_;refine tk 3 ?_;refine sk 4 ?_;refine sk 5 ?_;refine sk 6 ?_;refine tk 7 ?_;refine Gh e9 ?_ _;go_wp2_with fail;go_meet;exact⟨by rw[Sv.o],ae k7⟩
       ·have heq:((k:Int) == (r:Int))=false:=by simp;omega
        have Sv:=ae (show decide (k=r∨t.at k c=(0,1))=((p == 0)&&(q == 1))by rw[Gp.o,u' hkr];rfl);clear hkr;cases h1:(p == 0)
        all_goals
         cases h2:(q == 1)
        all_goals
         have TB:=ae Sv.o;rw[h1,h2]at TB;refine rN (S:=(fun w'=>w'.cell? ⟨gx,0,none⟩=some (.int .i64 p)/\w'.cell? ⟨gx,1,none⟩=some (.int .i64 q)/\Ext E3 w')) e9 ?_ (fun l7=>?_)
         ·exact⟨k7.j9 b0,k7.j9 b1,k7⟩
         refine tk 0 ?_;refine tk 1 ?_;refine tk 2 ?_;refine tk 3 ?_;refine tk 4 ?_;refine rd (i:=5) (h:=fun K hK=>?_);go_simp
         (go_at_call 49;refine(cO _ _).mono ?_;rintro e w3 ⟨rfl,zm⟩;have k7:=k7.trans zm)
         go_wp2_with fail;refine hK.out _ _ ?_ (fun l7=>?_)
         ·exact⟨k7.j9 b0,k7.j9 b1,k7⟩
         clear hK K
         try simp only[Act.put,sA,sB,sC]
         refine tk 6 ?_;refine tk 7 ?_;refine Gh e9 ?_ _;go_wp2_with fail;go_meet;exact⟨by rw[TB.o];rfl,ae k7⟩
      obtain⟨rfl,E7⟩:=hcut;have A6:=ae (Au.o.grow E7.o);have PF:=ae (Dh.o.ext A6.o.ext);have zi:=ae (As.o.ext A6.o.ext);have zk:=ae (zt.o.trans A6.o.ext);have VK:=ae (Mw.o.ext A6.o.ext);clear b0 b1;cases hsk:decide (k=r∨t.at k c=(0,1))
      ·have Sk:=ae (ab6 hsk);clear hsk;have p0:=am ((X1.o.trans zk.o).blk zf.o);have T':=A6.o.ext.j9 HZK.o;have b0:=A6.o.c0;have b1:=A6.o.c1;obtain⟨sv,IY⟩:=b9 (Bl (t.row k) (-p,q) mm);have Gn:=ae (show A8 t r c mm (k+1)=sv.map fun x=>M.set k x by rw[IY,vo I8.o Sk.o,Ay.o];rfl);have Qx:=ae (fun(w':World) (hx:Ext wc w')=>mN (k1:=-p) (k2:=q) (VK.o.ext hx) (zi.o.ext hx).zj e7);simp only[<-IY]at Qx;have Fu:(0:Int)<=(k:Int):=by omega
       have BR:(k:Int)<(m:Int):=by omega
       clear IY;go_upto_region 13 with fail;have k7:Ext wc wc.drew:=Ext.drew wc;have k8:=ae (fun(w':World) (h:Ext wc w')=>(⟨h.j9 p0,h.j9 T',h.j9 b0,h.j9 b1,h⟩:w'.cell? ⟨w.heap.size,0,none⟩=some (.slice (some ⟨zb,zL,none⟩) m rc)/\w'.cell? ⟨zb,zL+k,none⟩=some (.slice (some ⟨yb,zE,none⟩) zn yc)/\w'.cell? ⟨gx,0,none⟩=some (.int .i64 p)/\w'.cell? ⟨gx,1,none⟩=some (.int .i64 q)/\Ext wc w'));refine rN (S:=(fun w'=>w'.cell? ⟨w.heap.size,0,none⟩=some (.slice (some ⟨zb,zL,none⟩) m rc)/\w'.cell? ⟨zb,zL+k,none⟩=some (.slice (some ⟨yb,zE,none⟩) zn yc)/\w'.cell? ⟨gx,0,none⟩=some (.int .i64 p)/\w'.cell? ⟨gx,1,none⟩=some (.int .i64 q)/\Ext wc w')) e9 ?_ (fun l7=>?_)
       ·exact k8.o _ k7
       refine tk 0 ?_;refine tk 1 ?_;refine tk 2 ?_;refine tk 3 ?_;refine tk 4 ?_;refine tk 5 ?_;refine tk 6 ?_;refine tk 7 ?_;refine tk 8 ?_;refine tk 9 ?_;refine tk 10 ?_;refine tk 11 ?_;refine rd (i:=12) (h:=fun K hK=>?_);go_simp
       (go_at_call 241;refine(Qx.o _ k7).mono ?_;rintro e w4 ⟨⟨v4,rfl,C5⟩,zX⟩;have Us:=k7.size;have k7:=k7.trans zX;obtain⟨a4,n4,c4,rfl,Ju⟩:=C5.var)
       go_wp2_with fail;refine hK.out _ _ ?_ (fun l7=>?_)
       ·exact k8.o _ k7
       clear hK K
       try simp only[Act.put,sA,sB,sC]
       refine tk 13 ?_;refine tk 14 ?_;refine tk 15 ?_;refine tk 16 ?_;refine tk 17 ?_;refine Gh e9 ?_ _;have Bk:=ae (zk.o.trans k7);have Qv:=ae (PF.o.ext k7);have Ar:=ae (C5.mono Us);have Z8:=ae (zi.o.ext k7);have HK4:=ae k7;clear k7 C5 T' b0 b1 p0 Kj;cases sv with
       | none =>
         have HN:=ae (show bJ t (r:Int) (c:Int)=none by rw[PN.o,qR (k:=k+1) (by rw[Gn.o];rfl) Ah];rfl);have XF:=ae (X1.o.trans Bk.o);have p0:=am (XF.o.blk zf.o);have p1:=aD (XF.o.blk zf.o);have p2:=aG (XF.o.blk zf.o);go_wp2_with fail;refine(CV.o _ XF.o).mono ?_;rintro e w8 ⟨⟨va8,vb8,QL,rfl,J⟩,hx⟩;have I:=ae (XF.o.trans hx);have J7:=ae J;obtain⟨a7,n7,c7,rfl,H9⟩:=J.a.var;obtain⟨a8,n8,c8,rfl,IL⟩:=J.b.var;have r0:=am (I.o.blk Af.o);have r1:=aD (I.o.blk Af.o);have r2:=aG (I.o.blk Af.o);have rf:=dp (I.o.blk Af.o);have hsz:=XF.o.size;have KW:=CR.o;clear hx J p0 p1 p2;go_wp2_with fail;refine bR (v:=.tuple #[.agg #[.slice a7 n7 c7,.slice a8 n8 c8,.int .i64 (n:Int)],.bool false]) (by simp[results,acJ,go_sem,r0,r1,r2,rf]) rfl ⟨?_,(y7.o.trans I.o).CH (Cj _) _ _ _⟩;refine⟨.slice a7 n7 c7,.slice a8 n8 c8,QL,?_,?_⟩
         ·unfold dL;rw[HN.o,aaa,FI.o];rfl
         ·unfold dL;rw[HN.o,aaa];exact(J7.o.AL fun k hk=>dd _ _ _ _ _ _ e7).mono e7
       | some nr =>
         have c8:=Qv.o.c0;obtain⟨G',U,Gf,Tf⟩:=Qv.o.m.own.cell Ah;simp only[bA,mq,zz]at U;subst U;have UI:w4.cell? ⟨G,k,none⟩=some (O[k]?.getD undef):=by
          rw[Tf k Ah];have:k<O.length:=by rw[Qv.o.m.BW];exact Ah
          simp[this]
         obtain⟨G',U,_,_,H5⟩:=Qv.o.m.outer e7;simp only[bA,mq,zz]at U;subst U;have Qu:=ae (PF.o.put HK4.o (j1 zk.o.size) Ar.o Ah);have D0:=ae (Bk.o.setCell (p:=⟨G,k,none⟩) Gf (.slice a4 n4 c4))
         have HOM5:=ae (show o0 (w4.setCell ⟨G,k,none⟩ (.slice a4 n4 c4)) E.heap.size (.slice a5 n5 c5) mm from
          Z8.o.keep fun j hj=>bB _ _ _ _ fun e=>bh (by decide) Z8.o Qv.o.m.own j hj (by subst e;rfl))
         have HP5:=ae (show A8 t r c mm (k+1)=some (M.set k nr)by rw[Gn.o];rfl);clear Tf;go_wp2_with fail
         go_roundg (g2-1)
         case measure=>have:=KM.o;omega
         case rel=>exact⟨k+1,_,_,ae (j1 KM.o),by go_num,HP5,Qu,HOM5,D0⟩
      ·have CE:=ae (qS I8.o (EE hsk));clear hsk Kj;go_wp2_with fail
       go_roundg (g2-1)
       case measure=>have:=KM.o;omega
       case rel=>exact⟨k+1,O,M,ae (j1 KM.o),by go_num,CE,PF,zi,zk⟩
     ·have zQ:m=k:=by have:=KM.o;omega
      subst zQ;have HN:=ae (show bJ t (r:Int) (c:Int)=some ⟨M,t.basis.set r (c:Int),(n:Int)⟩by rw[PN.o,I8.o];rfl);have c81:=aD Dh.o.box;obtain⟨B',off',OY,LD⟩:=Dh.o.b.ints.at hr;simp only[bA,mq,zz]at OY;obtain⟨rfl,rfl⟩:=OY;obtain⟨B',OY,hbB,U0,_⟩:=Dh.o.b.block hr;simp only[bA,mq,zz]at OY;subst OY;rw[Mf]at LD;have KF:=ae (Dh.o.Xv r (c:Int));have GG:=ae (zt.o.setCell (p:=⟨B,r,none⟩) hbB (.int .i64 (c:Int)));go_upto_region 18 with fail;obtain⟨W9,Hd⟩:=b9 (Q.setCell ⟨B,r,none⟩ (.int .i64 (c:Int)));rw[<-Hd]at KF GG⊢;clear Hd c81 LD U0;have r0:=am ((X1.o.trans GG.o).blk Af.o);have r1:=aD ((X1.o.trans GG.o).blk Af.o);have r2:=aG ((X1.o.trans GG.o).blk Af.o);have rf:=dp ((X1.o.trans GG.o).blk Af.o);have t0:=am KF.o.box;have t1:=aD KF.o.box;have t2:=aG KF.o.box;go_wp2_with fail;refine bR (v:=.tuple #[.agg #[.slice (some ⟨G,0,none⟩) m ca,.slice (some ⟨B,0,none⟩) m cb,.int .i64 (n:Int)],.bool true]) (by simp[results,acJ,go_sem,r0,r1,r2,rf]) rfl ⟨?_,((y7.o.trans X1.o).trans GG.o).CH (Cj _) _ _ _⟩;refine⟨.slice (some ⟨G,0,none⟩) m ca,.slice (some ⟨B,0,none⟩) m cb,O,?_,?_⟩
      ·unfold dL;rw[HN.o,l'];rfl
      ·unfold dL;rw[HN.o,l'];exact(KF.o.own.AL fun k hk=>dd _ _ _ _ _ _ e7).mono e7
end
