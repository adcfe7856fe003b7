import Derived.Test.YtalmoolkhcgmmaaGreatNqAltG21
import Derived.Test.YtalmoolkhcgmmaaGreatNqAltG18
import Derived.Test.YtalmoolkhcgmmaaGreatNqAltG15
import Derived.Test.YtalmoolkhcgmmaaGreatNqAltG6
import Derived.Test.YtalmoolkhcgmmaaGreatNqAltG19
set_option linter.unusedVariables false
set_option linter.unusedSimpArgs false
namespace Go.Proofs.YtalmoolkhcgmmaaGreat
variable{w:World}{n k:Nat}
set_option maxHeartbeats 16000000
set_option maxRecDepth 100000
open Go.RowKit
theorem oQ{a:j8}{cap:Nat}{front:j6}(h:r8 w a n cap front)(rest:Int)(m:Nat)(hn:n<=100000)(hm:m<=100000):
 Calls Tryz.prog 108 #[.slice a n cap,.int .i64 rest,.int .i64 (m:Int)] w fun e w'=>(∃v,e=.returned v/\l8 w' w.heap.size v (front++List.replicate m (rest,1)))/\Ext w w':=by
 have HL:=ae h.hlen;have yq:=h.o3;have AZ:=h.l9;have HI:=ae (h.ext (Ext.alloc w (.cells #[] 46)));have HO:=ae (l8.made w w.heap.size (Nat.le_refl _));clear h;go_enter Tryz.func108,Tryz.ntmps108
 go_wp2_with (first
  | (at_builtin;refine aG rfl _ _ rfl w.heap.size (.slice (some ⟨w.heap.size,0,none⟩) 0 0) [] rfl HO.o a n cap front rfl HI.o (by simp;omega) e7 ?_;intro v5 w5 ho hg l7;have X5:=ae (al (Ext.alloc w (.cells #[] 46)) hg (fun j hj=>Nat.le_of_eq (Option.some.inj (show some w.heap.size=some j from hj))));obtain⟨a5,K,J,rfl,W⟩:=ho.var;have xL:=ae ho;clear ho hg l7))
 go_loopg [7,12] m (fun gk oo ii wr=>∃(k:Nat) (a1:j8) (n1 p1:Nat),b7 (gk+k=m)/\ii=.int .i64 (k:Int)/\oo=.slice a1 n1 p1/\b7 (l8 wr w.heap.size (.slice a1 n1 p1) (front++List.replicate k (rest,1)))/\b7 (Ext w wr))
 case atStart=>exact⟨0,_,_,_,ae b9,rfl,rfl,ae (by have:=xL.o;simpa using this),X5⟩
 case round =>
  obtain⟨g1,O⟩:=b8 gk;subst O;obtain⟨o7,R⟩:=b8 wr;subst R;obtain⟨k,a1,n1,p1,G,rfl,rfl,xC,HX⟩:=hrel;by_cases hlt:k<m
  ·have zR:=ae (show(front++List.replicate k (rest,(1:Int))).length=n+k by simp[HL.o]);go_wp2_with fail;refine(cG rest _).mono ?_;rintro e w3 ⟨rfl,hx⟩;have X3:=ae (HX.o.trans hx);have I:=ae (xC.o.ext hx);have CY:=X3.o.size;clear hx
   go_wp2_with (first
    | (at_builtin;refine aG rfl _ _ rfl w.heap.size (.slice a1 n1 p1) _ rfl (I.o.ext (Ext.alloc _ _)) _ 1 _ [(rest,1)] rfl (r8.one' _ _ _ _ _ e7) (by rw[zR.o];omega) (by simp;omega) ?_;intro v5 w5 ho hg l7;have X5:=ae (al (X3.o.trans (Ext.alloc _ _)) hg (fun j hj=>(I.o.lt j hj).1));obtain⟨a5,K,J,rfl,W⟩:=ho.var;have xL:=ae ho;clear ho hg l7))
   go_roundg (g1-1)
   case measure=>have:=G.o;omega
   case rel=>exact⟨k+1,a5,K,J,ae (j4 G.o),by go_num,rfl,ae (by have:=xL.o;rw[List.append_assoc,<-List.replicate_succ']at this;exact this),X5⟩
  ·have U:m=k:=by have:=G.o;omega
   subst U;go_wp2_with fail;go_ret;exact⟨⟨_,rfl,xC.o⟩,HX.o⟩
theorem iJ(t:Tb):∀k,(yM t k).length=t.q8.toNat+t.rows.length
 | 0=>by simp[yM]
 | k+1=>by simp only[yM,List.length_set];exact iJ t k
theorem qB{ra:j8}{rn rc:Nat}{ba:j8}{bn bc:Nat}{t:Tb}(h:EZ w ra rn rc ba bn bc t)(BF:rn<=100000)(xq:AG t=true):
 Calls Tryz.prog 110 #[EB ra rn rc ba bn bc t.q8] w fun e w'=>(∃v,e=.returned v/\l8 w' w.heap.size v (xV t))/\Ext w w':=by
 have wI:=Ext.alloc w (cg ra rn rc ba bn bc t.q8);have wM:=ae wI;have H:=ae (h.ext wI);have HF:=ae (iz H.o b9);rw[xq]at HF;obtain⟨m,EC,hm,Du,Ju,Qc⟩:=gw h xq;subst Du;have yC:=h.rows.o3;have AX:=h.rows.l9;have zy:=ae h.rows.hlen;have Yz:=ae (show xV t=yM t bn by unfold xV;rw[if_pos xq,h.rows.hlen]);have Hc:=ae (show yM t 0=List.replicate (m+bn) (0,1)by simp only[yM];rw[EC,h.rows.hlen];rfl);have Hb:=ae (fun k=>show(yM t k).length=m+bn by rw[iJ,EC,h.rows.hlen];simp);have zT:=ae Ju;have DQ:=ae Qc;have Cr:=ae EC;rw[EC]at HF wI wM H;rw[EC];have HO:=ae (fun(W:World)=>l8.made W W.heap.size (Nat.le_refl _));clear h wI Ju Qc xq EC;go_enter Tryz.func110,Tryz.ntmps110
 go_wp2_with fail;refine HF.o.mono ?_;rintro e w1 ⟨rfl,hx⟩;have X1:=ae hx;have H1:=ae (H.o.ext hx);have c0:w1.cell? ⟨w.heap.size,0,none⟩=some (.slice ra bn rc):=hx.k6 e7;have c2:w1.cell? ⟨w.heap.size,2,none⟩=some (.int .i64 (m:Int)):=hx.k6 e7;have Cu:w.heap.size+1<=w1.heap.size:=by have:=hx.size;simpa using this
 have WE:w.heap.size<w1.heap.size:=Cu;have xC:=ae (HO.o w1);clear hx;go_wp2_with fail
 go_loopg [3,16] (m+bn) (fun gk oo ii wr=>∃(k:Nat) (a1:j8) (n1 p1:Nat),b7 (gk+k=m+bn)/\ii=.int .i64 (k:Int)/\oo=.slice a1 n1 p1/\b7 (l8 wr w1.heap.size (.slice a1 n1 p1) (List.replicate k (0,1)))/\b7 (Ext w1 wr))
 case atStart=>exact⟨0,_,_,_,ae b9,rfl,rfl,xC,ae (Ext.alloc _ _)⟩
 case round =>
  obtain⟨g1,r7⟩:=b8 gk;subst r7;obtain⟨o7,o6⟩:=b8 wr;subst o6;obtain⟨k,a1,n1,p1,R,rfl,rfl,xC,HX⟩:=hrel;clear c0 c2;by_cases hlt:k<m+bn
  ·have zR:=ae (show(List.replicate k ((0:Int),(1:Int))).length=k by simp);have PS:(k:Int)<(m:Int)+(bn:Int):=by omega
   go_wp2_with fail;refine(cG 0 _).mono ?_;rintro e w3 ⟨rfl,hx⟩;have X3:=ae (HX.o.trans hx);have xp:=ae (xC.o.ext hx);have CY:=X3.o.size;clear hx
   go_wp2_with (first
    | (at_builtin;refine aG rfl _ _ rfl w1.heap.size (.slice a1 n1 p1) _ rfl (xp.o.ext (Ext.alloc _ _)) _ 1 _ [(0,1)] rfl (r8.one' _ _ _ _ _ e7) (by rw[zR.o];omega) (by simp;omega) ?_;intro v5 w5 ho hg l7;have X5:=ae (al (X3.o.trans (Ext.alloc _ _)) hg (fun j hj=>(xp.o.lt j hj).1));obtain⟨a5,n5,p5,rfl,A9⟩:=ho.var;have xL:=ae ho;clear ho hg l7))
   go_roundg (g1-1)
   case measure=>have:=R.o;omega
   case rel=>exact⟨k+1,a5,n5,p5,ae (j4 R.o),by go_num,rfl,ae (by have:=xL.o;rw[<-List.replicate_succ']at this;exact this),X5⟩
  ·have Z:k=m+bn:=by have:=R.o;omega
   have PS:¬(k:Int)<(m:Int)+(bn:Int):=by omega
   have HKM:=ae Z;have yE:=ae (show l8 o7 w1.heap.size (.slice a1 n1 p1) (yM t 0)by rw[Hc.o,<-Z];exact xC.o);have c0:o7.cell? ⟨w.heap.size,0,none⟩=some (.slice ra bn rc):=(X1.o.trans HX.o).k6 e7;clear Z;go_wp2_with fail
   go_loopg [26] bn (fun gk ii wr=>∃(k:Nat),b7 (gk+k=bn)/\ii=.int .i64 (k:Int)/\b7 (l8 wr w1.heap.size (.slice a1 n1 p1) (yM t k))/\b7 (Ext w1 wr))
   case atStart=>exact⟨0,ae b9,rfl,yE,HX⟩
   case round =>
    obtain⟨g2,xK⟩:=b8 gk;subst xK;obtain⟨I,wT⟩:=b8 wr;subst wT;obtain⟨j,U,rfl,J,K⟩:=hrel;clear c0;by_cases zt:j<bn
    ·obtain⟨zb,xJ,ya,O,yc,Bt,y9,o9⟩:=(H1.o.ext K.o).rows.at zt;subst Bt;obtain⟨u,hu⟩:=b8 (m+bn);have Dn:O=u+1:=by rw[<-o9.hlen,hu];exact zT.o j zt
     have Uc:=ae Dn;have xM:=o9.o3;have D1:=o9.l9;have ZC:u<=200000:=by omega
     obtain⟨yb,xB,p,q,Da,xk,Gp,Gn⟩:=o9.at (show u<O by omega);subst Da;have yt:=ae (show t.at j u=(p,q)from xk);obtain⟨b,hb,I3⟩:=DQ.o j zt;have HB:=ae hb;obtain⟨eb,xi,B2,yT⟩:=(H1.o.ext K.o).basis.at zt;subst B2;rw[hb]at yT;have Bj:n1=u:=by have:=J.o.wK.hlen;rw[Hb.o]at this;omega
     subst Bj;obtain⟨G,hG,DF,CL,JG⟩:=J.o.block (k:=b) b9;subst hG;obtain⟨G',I7,Z6,Z5,AL,BO,Ka,CK⟩:=J.o.wK.at (show b<n1 by omega);simp only[Option.some.injEq,Addr.mk.injEq,and_true]at AL;obtain⟨rfl,rfl⟩:=AL;rw[Nat.zero_add]at Ka CK;have c1:I.cell? ⟨w.heap.size,1,none⟩=some (.slice (some ⟨eb,xi,none⟩) bn bc):=(X1.o.trans K.o).k6 e7;have PE:IntKind.i64.wrap ((O:Int)-1)=(n1:Int):=by have:=Uc.o;rw[IntKind.wrap_i64];omega
     have IN:(n1:Int)<(O:Int):=by have:=Uc.o;omega
     have Od:(0:Int)<=(n1:Int):=by omega
     have AR:(0:Int)<=(b:Int):=by omega
     have zN:(b:Int)<(n1:Int):=by omega
     have Oj:(0:Int)<=(j:Int):=by omega
     have Ru:(j:Int)<(bn:Int):=by omega
     have HU:=ae hu;clear xk o9 Dn hb BO hu;go_upto_region 11 with fail
     go_still_tail 13,e8
     have xL:=ae (show l8 ((I.drew.setCell ⟨G,b*2,none⟩ (.int .i64 p)).setCell ⟨G,b*2+1,none⟩ (.int .i64 q)) w1.heap.size (.slice (some ⟨G,0,none⟩) n1 p1) (yM t (j+1))by
      have h1:=(J.o.ext (Ext.drew I)).set (k:=b) (by rw[Hb.o,<-HU.o];omega) p q;have h2:yM t (j+1)=(yM t j).set b (p,q):=by
       simp only[yM];rw[HB.o,Int.toNat_natCast,Cr.o,Int.toNat_natCast,zy.o,<-HU.o,yt.o]
      rw[h2];exact h1)
     have Br:=ae (((K.o.trans (Ext.drew I)).setCell (p:=⟨G,b*2,none⟩) DF (.int .i64 p)).setCell (p:=⟨G,b*2+1,none⟩) DF (.int .i64 q));clear PE;go_wp2_with fail
     go_roundg (g2-1)
     case measure=>have:=U.o;omega
     case rel=>exact⟨j+1,ae (j4 U.o),by go_num,xL,Br⟩
    ·have DE:bn=j:=by have:=U.o;omega
     subst DE;go_wp2_with fail;go_ret;exact⟨⟨_,rfl,by rw[Yz.o];exact J.o.mono b9⟩,(wM.o.trans X1.o).trans K.o⟩
theorem uk{a:j8}{cap:Nat}{Y:j6}(h:r8 w a n cap Y)(hn:n<=100000)(hY:∀k:Nat,-9223372036854775807<=(Y[k]?.getD (0,0)).1/\(Y[k]?.getD (0,0)).1<=9223372036854775807):
 Calls Tryz.prog 23 #[.slice a n cap] w fun e w'=>(∃v,e=.returned v/\l8 w' w.heap.size v (Y.map wR))/\Ext w w':=by
 have HL:=ae h.hlen;have yq:=h.o3;have AZ:=h.l9;have HI:=ae h;have HB:=ae hY;have HO:=ae (l8.made w w.heap.size (Nat.le_refl _));clear h hY;go_enter Tryz.func23,Tryz.ntmps23
 go_wp2_with fail
 go_loopg [3,9] n (fun gk oo ii wr=>∃(k:Nat) (a1:j8) (n1 p1:Nat),b7 (gk+k=n)/\ii=.int .i64 (k:Int)/\oo=.slice a1 n1 p1/\b7 (l8 wr w.heap.size (.slice a1 n1 p1) ((Y.take k).map wR))/\b7 (Ext w wr))
 case atStart=>exact⟨0,_,_,_,ae b9,rfl,rfl,HO,ae (Ext.alloc _ _)⟩
 case round =>
  obtain⟨g1,K⟩:=b8 gk;subst K;obtain⟨o7,R⟩:=b8 wr;subst R;obtain⟨k,a1,n1,p1,J,rfl,rfl,xC,HX⟩:=hrel;have hsz:=HX.o.size;by_cases hlt:k<n
  ·obtain⟨eb,xi,x,y,W,G,yT,B3⟩:=(HI.o.ext HX.o).at hlt;subst W;have hb:=HB.o k;rw[G]at hb
   have AU:=ae (show(Y.take k).map wR++[(-x,y)]=(Y.take (k+1)).map wR by
    have h1:k<Y.length:=by rw[HL.o];exact hlt
    rw[List.take_succ_eq_append_getElem h1,List.map_append,List.map_singleton];rw[List.getElem?_eq_getElem h1,Option.getD_some]at G
    rw[G];rfl)
   have FF:(0:Int)<=(k:Int):=by omega
   have BH:(k:Int)<(n:Int):=by omega
   have HTL:=ae (show((Y.take k).map wR).length=k by rw[List.length_map,List.length_take,HL.o];omega);have HM:=ae (fun w'=>eM x y w' hb.1 hb.2);clear G hb;go_wp2_with fail;refine(HM.o _).mono ?_;rintro e w3 ⟨rfl,hx⟩;have X3:=ae ((HX.o.trans (Ext.alloc _ _)).trans hx);have I:=ae ((xC.o.ext (Ext.alloc _ _)).ext hx);have CY:=X3.o.size;clear hx
   go_wp2_with (first
    | (at_builtin;refine aG rfl _ _ rfl w.heap.size (.slice a1 n1 p1) _ rfl (I.o.ext (Ext.alloc _ _)) _ 1 _ [(-x,y)] rfl (r8.one' _ _ _ _ _ e7) (by rw[HTL.o];omega) (by simp;omega) ?_;intro v5 w5 ho hg l7;have X5:=ae (al (X3.o.trans (Ext.alloc _ _)) hg (fun j hj=>(I.o.lt j hj).1));obtain⟨a5,U,O,rfl,A9⟩:=ho.var;have xL:=ae ho;clear ho hg l7))
   go_roundg (g1-1)
   case measure=>have:=J.o;omega
   case rel=>exact⟨k+1,a5,U,O,ae (j4 J.o),by go_num,rfl,ae (by rw[<-AU.o];exact xL.o),X5⟩
  ·have HT:=ae (show Y.take k=Y from List.take_of_length_le (by rw[HL.o];omega));rw[HT.o]at xC;go_wp2_with fail;go_ret;exact⟨⟨_,rfl,xC.o⟩,HX.o⟩
theorem gV(p:Nat->Bool)(k:Nat):(List.range (k+1)).all p=((List.range k).all p&&p k):=by
 rw[List.range_succ,List.all_append];simp
theorem dq{p:Nat->Bool}(h:k<n)(hp:p k=false):(List.range n).all p=false:=by
 rw[List.all_eq_false];exact⟨k,List.mem_range.2 h,by simp[hp]⟩
theorem qy(x:Int)(w:World):Calls Tryz.prog 105 #[.int .i64 x] w fun e w'=>e=.returned (.bool (!wJ x (-5000) 5000))/\w=w':=by
 go_enter Tryz.func105,Tryz.ntmps105
 go_wp2_with (first|(go_at_call 49;refine(aK _ _ _ _).mono ?_;rintro e w' ⟨rfl,rfl⟩));go_ret;exact⟨rfl,rfl⟩
theorem jX:IsGo Tryz.prog 105:=isGo Tryz.func105 e8 e8
theorem iM(w:World):FZ Tryz.prog w 105 #[] (fun x=>!wJ x (-5000) 5000) :=
 fun x w1 _=>(qy x w1).mono fun e w' ⟨he,hw⟩=>⟨he,hw▸Ext.refl _⟩
def dR(m:Nat)(r:j9):Bool:=decide (r.length=m)&&r.all (wJ · (-5000) 5000)
theorem nG(l:j9):l.any (fun x=>!wJ x (-5000) 5000)=!l.all (wJ · (-5000) 5000):=by rw[List.not_all_eq_any_not]
theorem jr(A:j7)(B:j9)(C:j6):xF A B C=(decide (C.length<=70)&&(decide (A.length<=8)&&(decide (B.length=A.length)&&(yz C&&(A.all (dR C.length)&&B.all (wJ · (-5000) 5000)))))):=rfl
theorem oy{p:j9->Bool}{l:j7}(h:k<l.length):(l.take (k+1)).all p=((l.take k).all p&&p (l[k]?.getD [])):=by
 rw[fz h];simp
theorem ib{p:j9->Bool}{l:j7}(h:k<l.length)(hb:p (l[k]?.getD [])=false):l.all p=false:=by
 rw[List.all_eq_false];exact⟨l[k],List.getElem_mem h,by rw[List.getElem?_eq_getElem h]at hb;simpa using hb⟩
section
variable{w:World}{a:j8}{na ca:Nat}{b:j8}{nb cb:Nat}{c:j8}{nc cc:Nat}{A:j7}{B:j9}{C:j6}
theorem eF(h:Cz w a na ca b nb cb c nc cc A B C):
 Calls Tryz.prog 61 #[C8 a na ca b nb cb c nc cc] w fun e w'=>e=.returned (.bool (xF A B C))/\Ext w w':=by
 have wI:=Ext.alloc w (bE a na ca b nb cb c nc cc);have wM:=ae wI;have H:=ae (h.ext wI);have HE:=ae (jr A B C);have Ke:=h.a.o3;have ES:=h.a.l9;have zN:=h.b.o3;have zx:=h.b.l9;have yq:=h.c.o3;have AZ:=h.c.l9;have J:=ae h.a.hlen;have y4:=ae h.b.hlen;have z8:=ae h.c.hlen;clear h wI;by_cases h1:nc<=70
 ·by_cases h2:na<=8
  ·by_cases h3:nb=na
   ·subst h3;have zd:((nb:Int) != (nb:Int))=false:=by simp
    have AE:=ae (show xF A B C=(yz C&&(A.all (dR nc)&&B.all (wJ · (-5000) 5000)))by
     rw[HE.o,J.o,y4.o,z8.o,decide_eq_true h1,decide_eq_true h2,decide_eq_true rfl];rfl)
    have HV:=ae (jA H.o.c);cases hv:yz C
    ·rw[hv]at HV AE;clear hv;go_enter Tryz.func61,Tryz.ntmps61
     go_wp2_with fail;refine HV.o.mono ?_;rintro e w1 ⟨rfl,hx⟩;have X1:=ae (wM.o.trans hx);clear hx;go_wp2_with fail;go_ret;exact⟨ag AE.o.symm,X1.o⟩
    ·rw[hv]at HV AE;clear hv;go_enter Tryz.func61,Tryz.ntmps61
     go_wp2_with fail;refine HV.o.mono ?_;rintro e w1 ⟨rfl,hx⟩;have y5:w1.cell? ⟨w.heap.size,0,none⟩=some (.slice a nb ca):=hx.k6 e7;have K:w1.cell? ⟨w.heap.size,1,none⟩=some (.slice b nb cb):=hx.k6 e7;have G:w1.cell? ⟨w.heap.size,2,none⟩=some (.slice c nc cc):=hx.k6 e7;have J0:=ae K;have Z:=ae G;have H1:=ae (H.o.ext hx);have X1:=ae (wM.o.trans hx);clear hx K G;go_wp2_with fail
     go_loopg [34] nb (fun gk ii wr=>∃k:Nat,b7 (gk+k=nb)/\ii=.int .i64 (k:Int)/\b7 ((A.take k).all (dR nc)=true)/\b7 (Ext w1 wr))
     case atStart=>exact⟨0,ae b9,rfl,ae rfl,ae (Ext.refl _)⟩
     case round =>
      obtain⟨g1,U⟩:=b8 gk;subst U;obtain⟨o7,W⟩:=b8 wr;subst W;obtain⟨k,O,rfl,HA,HX⟩:=hrel;clear y5;by_cases hlt:k<nb
      ·obtain⟨gb,FJ,ra,rn,rc,u,PZ,o9⟩:=(H1.o.ext HX.o).a.at hlt;subst u;have G:=HX.o.k6 Z.o;have zy:=ae o9.hlen;have BF:=o9.o3;have WJ:=o9.l9;have OO:=ae (show k<A.length by rw[J.o];exact hlt);have I:=ae (dQ o9 jX (iM _));clear o9;cases hl:((rn:Int) != (nc:Int))
       ·cases hr:(A[k]?.getD []).all (wJ · (-5000) 5000)
        ·have HF:=ae (show xF A B C=false by
          rw[AE.o,ib OO.o (by unfold dR;rw[hr];simp)];rfl)
         rw[nG,hr]at I;clear hr;go_wp2_with fail;refine I.o.mono ?_;rintro e w2 ⟨rfl,xg⟩;have X2:=ae ((X1.o.trans HX.o).trans xg);clear xg;go_wp2_with fail;go_ret;exact⟨ag HF.o.symm,X2.o⟩
        ·have HT:=ae (show(A.take (k+1)).all (dR nc)=true by
          rw[oy OO.o,HA.o];unfold dR;rw[hr,zy.o];simp at hl⊢;omega)
         rw[nG,hr]at I;clear hr;go_wp2_with fail;refine I.o.mono ?_;rintro e w2 ⟨rfl,xg⟩;have X2:=ae (HX.o.trans xg);clear xg;go_wp2_with fail
         go_roundg (g1-1)
         case measure=>have:=O.o;omega
         case rel=>exact⟨k+1,ae (j4 O.o),by go_num,HT,X2⟩
       ·have HF:=ae (show xF A B C=false by
         rw[AE.o,ib OO.o (by unfold dR;rw[zy.o,decide_eq_false (by simp at hl;omega)];rfl)];rfl)
        go_wp2_with fail;go_ret;exact⟨ag HF.o.symm,X1.o.trans HX.o⟩
      ·have R:nb=k:=by have:=O.o;omega
       subst R;have HT:=ae (show A.all (dR nc)=true by have:=HA.o;rwa [List.take_of_length_le (by rw[J.o];exact Nat.le_refl _)]at this);have K:=HX.o.k6 J0.o;have I:=ae (dQ (H1.o.ext HX.o).b jX (iM _));rw[nG]at I;go_wp2_with fail;refine I.o.mono ?_;rintro e w2 ⟨rfl,xg⟩;have X2:=ae ((X1.o.trans HX.o).trans xg);clear xg;go_wp2_with fail;go_ret;exact⟨ag (by rw[AE.o,HT.o];simp),X2.o⟩
   ·have HF:=ae (show xF A B C=false by rw[HE.o,J.o,y4.o,decide_eq_false h3];simp);have zd:((nb:Int) != (na:Int))=true:=by simp;omega
    go_enter Tryz.func61,Tryz.ntmps61
    go_wp2_with fail;go_ret;exact⟨ag HF.o.symm,wM.o⟩
  ·have HF:=ae (show xF A B C=false by rw[HE.o,J.o,decide_eq_false h2];simp);go_enter Tryz.func61,Tryz.ntmps61
   go_wp2_with fail;go_ret;exact⟨ag HF.o.symm,wM.o⟩
 ·have HF:=ae (show xF A B C=false by rw[HE.o,z8.o,decide_eq_false h1];simp);go_enter Tryz.func61,Tryz.ntmps61
  go_wp2_with fail;go_ret;exact⟨ag HF.o.symm,wM.o⟩
end
end Go.Proofs.YtalmoolkhcgmmaaGreat
