import Derived.Test.YtalmoolkhcgmmaaGreatNqAltG34
import Derived.Test.YtalmoolkhcgmmaaGreatNqAltG12
import Derived.Test.YtalmoolkhcgmmaaGreatNqAltG24
import Derived.Test.YtalmoolkhcgmmaaGreatNqAltG43
import Derived.Test.YtalmoolkhcgmmaaGreatNqAltG4
set_option linter.unusedVariables false
set_option linter.unusedSimpArgs false
namespace Go.Proofs.YtalmoolkhcgmmaaGreat
set_option maxHeartbeats 16000000
set_option maxRecDepth 100000
open Go.RowKit
theorem r8.Im{w:World}{b n cap:Nat}{l:j6}(h:r8 w (some ⟨b,0,none⟩) n cap l){k:Nat}(hk:k<=n):r8 w (if cap=k then some ⟨b,0,none⟩ else some ⟨b,k*2,none⟩) (n-k) (cap-k) (l.drop k):=by
 have hc:=h.o3
 split
 ·exact⟨by rw[List.length_drop,h.hlen],by omega,by have:=h.l9;omega,fun j hj=>absurd hj b9⟩
 ·refine⟨by rw[List.length_drop,h.hlen],by omega,by have:=h.l9;omega,fun j hj=>⟨b,k*2,rfl,fun i hi=>?_⟩⟩;obtain⟨b',off',e,G⟩:=h.cell (j+k) b9;simp only[Option.some.injEq,Addr.mk.injEq,and_true]at e;obtain⟨rfl,rfl⟩:=e;have:=G (k+i) b9;rw[List.getElem?_drop,show k*2+i*2=0+(k+i)*2 by omega];exact this
theorem Qi(l:j6)(k:Nat):∃x y,l[k]?.getD (0,0)=(x,y):=⟨_,_,rfl⟩
theorem om{w:World}{p:Int}{a:j8}{n cap:Nat}{V:j9}(h:Ints w a n cap V){b:j8}{m yF:Nat}{X:j6}(hx:r8 w b m yF X):
 Calls Tryz.prog 117 #[pair p a n cap,.slice b m yF] w fun e w'=>(∃v,e=.returned v/\l8 w' w.heap.size v (Ak ((yj p V X).getD [])))/\Ext w w':=by
 have HX:=ae (Ext.alloc w (.cells #[.int .i64 p,.slice a n cap] 26));have HE:=ae (rx (p:=p) (h.ext HX.o) (hx.ext HX.o))
 have Ex:=ae (show((yj p V X).getD []).length<=1000 by
  cases hA:yj p V X with
  | none=>simp
  | some l =>
    obtain⟨q,_,h1,h5,hlen,_,_⟩:=aW (dl (cJ hA).1);have:=cu q h5;have h3:=(cJ hA).2;simp only[Option.getD_some]
    omega)
 obtain⟨l,hl⟩:=b8 ((yj p V X).getD []);rw[<-hl]at HE Ex⊢;clear h hx hl;go_enter Tryz.func117,Tryz.ntmps117
 go_wp2_with fail;refine HE.o.mono ?_;rintro e w1 ⟨⟨v,rfl,ho⟩,wO⟩;obtain⟨la,n1,c1,rfl,He⟩:=ho.var;have HL:=ae ho.wK.hlen;have zy:=ae ho.wK;have Bj:n1<=1000:=by have:=HL.o;have:=Ex.o;omega
 have Rs:=ho.wK.o3;have hlm:=ho.wK.l9;have X1:=ae (HX.o.trans wO);have Ft:=ae (l8.Gl w1 w1.heap.size _ rfl (Nat.le_refl _));clear ho wO HE He Ex;go_wp2_with fail
 go_loopg [7,8] n1 (fun gk oo ii wr=>∃(k g p1:Nat),b7 (gk+k=n1)/\oo=.slice (some ⟨g,0,none⟩) k p1/\ii=.int .i64 (k:Int)/\b7 (l8 wr w1.heap.size (.slice (some ⟨g,0,none⟩) k p1) (Ab l k))/\b7 (Ext w1 wr))
 case atStart=>exact⟨0,_,_,ae b9,rfl,rfl,Ft,ae (Ext.alloc _ _)⟩
 case round =>
  obtain⟨g1,r7⟩:=b8 gk;subst r7;obtain⟨o7,o6⟩:=b8 wr;subst o6;obtain⟨k,g,p1,HK,rfl,rfl,xC,xz⟩:=hrel;have Hz:=xC.o.wK.o3;have hpm:=xC.o.wK.l9;by_cases hlt:k<n1
  ·obtain⟨O,J,x,y,rfl,xW,Z,W⟩:=zy.o.at hlt;have CS:=ae xW;clear xW;go_wp2_with fail
   go_loopg [9] k (fun gk tt wr=>∃(j:Nat),b7 (gk=j)/\b7 (j<=k)/\tt=.int .i64 (j:Int)/\b7 (l8 wr w1.heap.size (.slice (some ⟨g,0,none⟩) k p1) (Ab l k))/\b7 (Ext w1 wr)/\b7 (Ba (x,y) (Ab l k) k=Ba (x,y) (Ab l k) j))
   case atStart=>exact⟨k,ae rfl,ae (Nat.le_refl _),rfl,xC,xz,ae rfl⟩
   case round =>
    obtain⟨g2,xK⟩:=b8 gk;subst xK;obtain⟨G,wT⟩:=b8 wr;subst wT;obtain⟨j,Vy,HJ,rfl,yE,xZ,HP⟩:=hrel;have PX:=HJ.o;have k7:Ext G G.drew:=Ext.drew G;by_cases Oj:j=0;rotate_left;obtain⟨q,Oi⟩:∃q,j=q+1:=⟨j-1,by omega⟩;obtain⟨u,v,J3⟩:=Qi (Ab l k) q;obtain⟨xb2,xo2,u2,v2,Ry,Hw,Ov,Ou⟩:=yE.o.wK.at (k:=q) b9;simp only[Option.some.injEq,Addr.mk.injEq,and_true]at Ry;obtain⟨CE,DA⟩:=Ry;subst CE DA;rw[J3]at Hw;simp only[Prod.mk.injEq]at Hw;obtain⟨rfl,rfl⟩:=Hw;rw[Nat.zero_add]at Ov Ou;have Nx:=xZ.o.k6 Z;have Nw:=xZ.o.k6 W;have U:0<j:=by omega
    have hqk:q<k:=by omega
    have Vx:=ae Oi;have OA:=ae J3;have Ce:IntKind.i64.wrap ((j:Int)-1)=(q:Int):=by rw[IntKind.wrap_i64];omega
    have A7:wrap64 ((j:Int)-1)=(q:Int):=by unfold wrap64;omega
    have AK:(j:Int)-1=(q:Int):=by omega
    have B7:IntKind.i64.wrap (q:Int)=(q:Int):=by rw[IntKind.wrap_i64];omega
    have BZ:wrap64 (q:Int)=(q:Int):=by unfold wrap64;omega
    obtain⟨K,hK⟩:=b8 (wU (u,v) (x,y));have Bg:=ae hK;clear J3 Oi hK k7 Oj;by_cases yP:K<0
    ·skip
     have k7:Ext G G.drew:=Ext.drew G;have xI:=k7;have k8:=ae (fun(w':World) (h:Ext G w')=>(⟨h.k6 Ov,h.k6 Ou,h.k6 Nx,h.k6 Nw,h⟩:w'.cell? ⟨g,q*2,none⟩=some (.int .i64 u)/\w'.cell? ⟨g,q*2+1,none⟩=some (.int .i64 v)/\w'.cell? ⟨O,J+k*2,none⟩=some (.int .i64 x)/\w'.cell? ⟨O,J+k*2+1,none⟩=some (.int .i64 y)/\Ext G w'));go_wp2_with fail
     go_region_held3 (fun w'=>w'.cell? ⟨g,q*2,none⟩=some (.int .i64 u)/\w'.cell? ⟨g,q*2+1,none⟩=some (.int .i64 v)/\w'.cell? ⟨O,J+k*2,none⟩=some (.int .i64 x)/\w'.cell? ⟨O,J+k*2+1,none⟩=some (.int .i64 y)/\Ext G w')
      (with_reducible exact k8.o _ k7)
      (first
        | (go_at_call 118
           (with_reducible refine(eo _ _ _ _ _).mono ?_)
           rw[<-Bg.o];rintro e I ⟨rfl,wH⟩;have k7:Ext G I:=k7.trans wH
           have Mk:=k7.size)
        | fail)
     clear k8 xI;clear Ce A7 AK B7 BZ Ov Ou Nx Nw;have AK:(j:Int)-1=(q:Int):=by have:=Vx.o;omega
     have A7:wrap64 ((j:Int)-1)=(q:Int):=by have:=Vx.o;unfold wrap64;omega
     go_wp2_with fail;clear A7 AK
     go_roundg (g2-1)
     case measure=>have:=Vy.o;have:=Vx.o;omega
     case rel=>exact⟨q,ae (by have:=Vy.o;have:=Vx.o;omega),ae b9,by go_num,ae (yE.o.ext k7),ae (xZ.o.trans k7),ae (by rw[HP.o,Vx.o,og (by rw[OA.o,<-Bg.o];exact yP)])⟩
    focus
     have k7:Ext G G.drew:=Ext.drew G;have xI:=k7;have k8:=ae (fun(w':World) (h:Ext G w')=>(⟨h.k6 Ov,h.k6 Ou,h.k6 Nx,h.k6 Nw,h⟩:w'.cell? ⟨g,q*2,none⟩=some (.int .i64 u)/\w'.cell? ⟨g,q*2+1,none⟩=some (.int .i64 v)/\w'.cell? ⟨O,J+k*2,none⟩=some (.int .i64 x)/\w'.cell? ⟨O,J+k*2+1,none⟩=some (.int .i64 y)/\Ext G w'));go_wp2_with fail
     go_region_held3 (fun w'=>w'.cell? ⟨g,q*2,none⟩=some (.int .i64 u)/\w'.cell? ⟨g,q*2+1,none⟩=some (.int .i64 v)/\w'.cell? ⟨O,J+k*2,none⟩=some (.int .i64 x)/\w'.cell? ⟨O,J+k*2+1,none⟩=some (.int .i64 y)/\Ext G w')
      (with_reducible exact k8.o _ k7)
      (first
        | (go_at_call 118
           (with_reducible refine(eo _ _ _ _ _).mono ?_)
           rw[<-Bg.o];rintro e I ⟨rfl,wH⟩;have k7:Ext G I:=k7.trans wH
           have Mk:=k7.size)
        | fail)
     clear k8 xI;clear Ce A7 AK B7 BZ Ov Ou Nx Nw;have HPJ:=ae (show Ba (x,y) (Ab l k) k=j by rw[HP.o,Vx.o,ks (by rw[OA.o,<-Bg.o];omega)]);clear hqk
    rotate_left
    focus
     have HPJ:=ae (show Ba (x,y) (Ab l k) k=j by rw[HP.o,Oj];rfl);have U:¬0<j:=by omega
     clear Oj;go_wp2_with fail;refine wp_region_held_drew (S:=(fun w'=>Ext G w')) e8 ?_ (fun k9=>?_)
     ·exact k7
     refine tk 0 ?_;refine tk 1 ?_;refine tk 2 ?_;refine sk 3 ?_;refine sk 4 ?_;refine sk 5 ?_;refine sk 6 ?_;refine sk 7 ?_;refine sk 8 ?_;refine sk 9 ?_;refine sk 10 ?_;refine sk 11 ?_;refine sk 12 ?_;refine sk 13 ?_;refine tk 14 ?_;refine wpAnyH_done e8 ?_ _;obtain⟨I,BZ⟩:=b8 G.drew;rw[<-BZ]at k7 k9⊢;clear BZ k9
    all_goals
     have R4:=ae (yE.o.ext k7);have Xd:=ae (xZ.o.trans k7);have D':=(R4.o.lt g rfl).2;have IX:=(R4.o.lt g rfl).1;have R:=Xd.o.size;have Hb:=ae (jV l k)
     have AU:=ae (show(Ab l k).take j++[(x,y)]++(Ab l k).drop j=Ab l (k+1)by
      rw[Ab];unfold Gm;rw[CS.o,Hb.o,HPJ.o,List.append_assoc];rfl)
     clear k7 U
     go_wp2_with (first
      | (at_builtin
         (have T1:=(l8.Gl I I.heap.size _ rfl (Nat.le_refl _))
          have T2:=((R4.o.ext (Ext.alloc I (.cells #[] 46))).wK.take PX);refine aG rfl _ _ rfl I.heap.size (.slice (some ⟨I.heap.size,0,none⟩) 0 0) [] rfl T1 _ j p1 _ rfl T2 (by simp;omega) e7 ?_;intro v2 w6 ho hg l7;rw[List.nil_append]at ho;obtain⟨a2,n2,c2,rfl,Fa⟩:=ho.var;have HA:=ae ho;have HOe:=ae ((R4.o.ext (Ext.alloc I (.cells #[] 46))).keep fun q hq=>hg.block q ((R4.o.ext (Ext.alloc I (.cells #[] 46))).lt q hq).2 fun e=>by have h1:=Option.some.inj (show some I.heap.size=some q from e.symm);have h2:=Option.some.inj (show some g=some q from hq);omega);have X6:=ae (al (Xd.o.trans (Ext.alloc I (.cells #[] 46))) hg (fun q hq=>by have:=Option.some.inj (show some I.heap.size=some q from hq);omega));have WA:I.heap.size<=w6.heap.size:=Nat.le_trans e7 hg.size;have Nx:=X6.o.k6 Z;have Nw:=X6.o.k6 W
          clear ho hg l7 T1 T2))
      | (at_builtin
         (have T1:=HA.o.ext (Ext.alloc w6 (.cells #[.int .i64 x,.int .i64 y] 46))
          have T2:=r8.one w6 x y 46;refine aG rfl _ _ rfl I.heap.size (.slice a2 n2 c2) ((Ab l k).take j) rfl T1 _ 1 1 [(x,y)] rfl T2 (by have:=Hb.o;simp;omega) (by simp;omega) ?_;intro v3 w7 ho hg l7;obtain⟨a3,n3,c3,rfl,R7⟩:=ho.var;have HB:=ae ho;have HOf:=ae ((HOe.o.ext (Ext.alloc w6 (.cells #[.int .i64 x,.int .i64 y] 46))).keep fun q hq=>hg.block q ((HOe.o.ext (Ext.alloc w6 (.cells #[.int .i64 x,.int .i64 y] 46))).lt q hq).2 fun e=>by have h1:=(HA.o.lt q e.symm).1;have h2:=Option.some.inj (show some g=some q from hq);omega);have X7:=ae (al (X6.o.trans (Ext.alloc w6 (.cells #[.int .i64 x,.int .i64 y] 46))) hg (fun q hq=>by have:=(HA.o.lt q hq).1;omega));have GZ:I.heap.size<=w7.heap.size:=Nat.le_trans (by simp;omega) hg.size
          clear ho hg l7 T1 T2))
      | (at_builtin
         (have T1:=HB.o
          have T2:=HOf.o.wK.Im PX;refine aG rfl _ _ rfl I.heap.size (.slice a3 n3 c3) ((Ab l k).take j++[(x,y)]) rfl T1 _ (k-j) (p1-j) _ rfl T2 (by have:=Hb.o;simp;omega) GZ ?_;intro v4 w8 ho hg l7;obtain⟨a4,n4,c4,rfl,YW⟩:=ho.var;have HD:=ae ho;have X8:=ae (al X7.o hg (fun q hq=>by have:=(HB.o.lt q hq).1;omega))
          clear ho hg l7 T1 T2)))
     all_goals
      have Zg:=ae (show l8 w8 I.heap.size (.slice a4 n4 c4) (Ab l (k+1))by have:=HD.o;rwa [AU.o]at this);have EF:n4=k+1:=by have:=Zg.o.wK.hlen;rw[jV]at this;omega
      obtain⟨g4,hg4,_,_,_⟩:=Zg.o.block (k:=0) b9;subst hg4 EF
      go_roundg (g1-1)
      case measure=>have:=HK.o;omega
      case rel=>exact⟨k+1,g4,c4,ae (j4 HK.o),rfl,by go_num,ae (Zg.o.mono R),X8⟩
  ·have xQ:k=n1:=by have:=HK.o;omega
   subst xQ;go_wp2_with fail;go_ret;exact⟨⟨_,rfl,by unfold Ak;rw[HL.o];exact xC.o.mono (j4 X1.o.size)⟩,X1.o.trans xz.o⟩
end Go.Proofs.YtalmoolkhcgmmaaGreat
namespace Go.Proofs.YtalmoolkhcgmmaaGreat
set_option maxHeartbeats 16000000
set_option maxRecDepth 100000
open Go.RowKit
theorem l8.TN{w w':World}{base base':Nat}{v G:Value}{l:j6}{I:List Value}(h:l8 w base v l)(hv:xe w base' G I)(hg:w.grownBy w' G.ownBlock):l8 w' base v l :=
 h.keep fun q hq=>hg.block q (h.lt q hq).2 fun e=>aY (show(46:Nat)≠24 by decide) h hv q hq e.symm
theorem Lu{x y x' y':Int}(h:((x == x')&&(y == y'))=false):¬(x,y)=(x',y'):=by
 intro e;simp only[Prod.mk.injEq]at e;rw[e.1,e.2]at h;simp at h
theorem Lv{x y x' y':Int}(h:((x == x')&&(y == y'))=true):(x,y)=(x',y'):=by
 simp only[Bool.and_eq_true,beq_iff_eq]at h;rw[h.1,h.2]
theorem uy{w:World}{p:Int}{a:j8}{n cap:Nat}{V:j9}(h:Ints w a n cap V){b:j8}{m yF:Nat}{X:j6}(hx:r8 w b m yF X):
 Calls Tryz.prog 69 #[pair p a n cap,.slice b m yF] w fun e w'=>(∃v,e=.returned v/\dI w' w.heap.size v (Cd p V X))/\Ext w w':=by
 obtain⟨W,hW⟩:=b8 (w.alloc (.cells #[.int .i64 p,.slice a n cap] 26));have hX:Ext w W:=by rw[hW];exact Ext.alloc _ _
 have yI:=ae (show W.heap.size=w.heap.size+1 by rw[hW];simp);have k0:W.cell? ⟨w.heap.size,0,none⟩=some (.int .i64 p):=by rw[hW];simp
 have k1:W.cell? ⟨w.heap.size,1,none⟩=some (.slice a n cap):=by rw[hW];simp
 have K0:=ae k0;have K1:=ae k1;have HX:=ae hX;have HI:=ae (h.ext hX);have HR:=ae (hx.ext hX);have o3:=h.o3;have l9:=h.l9;have yD:=ae h.hlen;have Hu:=Ext.alloc W (.cells #[] 24);have Fc:=om (p:=p) (HI.o.ext Hu) (HR.o.ext Hu);obtain⟨l,hl⟩:=b8 ((yj p V X).getD []);have GR:=ae hl;rw[<-hl]at Fc;have HE:=ae Fc;have HLS:=ae (show Cd p V X=CD l l.length by unfold Cd C9;rw[<-hl]);have Ft:=ae (xe.yG W W.heap.size _ rfl (Nat.le_refl _));have V0:=Hu.k6 k0;have k1':=Hu.k6 k1;have Oz:=ae Hu;clear h hx hX hl Fc Hu k0 k1;go_enter Tryz.func69,Tryz.ntmps69
 go_upto_region 1 with fail;rw[<-hW];clear hW;go_wp2_with fail;refine HE.o.mono ?_;rintro e w2 ⟨⟨v,rfl,ho⟩,xg⟩;obtain⟨aa,J,ca,rfl,HN⟩:=ho.var;have JP:=ae (show l.length=J by have:=HN.o;rwa [fk]at this);have Uy:=ae (show l8 w2 W.heap.size (.slice aa J ca) (Ak l)from ho.mono e7);have Vv:=ae (Ft.o.ext xg);have X2:=ae (Oz.o.trans xg)
 have HNV:=ae (show 0<J->yj p V X=some l/\aZ p V=true/\J=n-2/\2<n/\n<=32 by
  intro h0;have h1:=GR.o;have h2:=JP.o;cases hA:yj p V X with
  | none=>rw[hA]at h1;rw[h1]at h2;simp at h2;omega
  | some r =>
    rw[hA]at h1;simp only[Option.getD_some]at h1;subst h1;have h3:=cJ hA;obtain⟨q,_,h4,h5,hlen,_,_⟩:=aW (dl h3.1);have:=cu q h5;have h6:=yD.o
    exact⟨rfl,dl h3.1,by omega,by omega,by omega⟩)
 have hac:=ho.wK.o3;have ham:=ho.wK.l9;have hna9:J<=32:=by
  rcases Nat.eq_zero_or_pos J with h0|h0
  ·omega
  ·have:=HNV.o h0;omega
 clear ho xg HN V0 k1' Ft HE;go_wp2_with fail
 go_loopg [5,7] J (fun gk oo ii wr=>∃(k:Nat) (a3:j8) (n3 p3:Nat) (vs:List Value),b7 (gk+k=J)/\oo=.slice a3 n3 p3/\ii=.int .i64 (k:Int)/\b7 (xe wr W.heap.size (.slice a3 n3 p3) vs)/\b7 (bC wr W.heap.size vs (CD l k))/\b7 (l8 wr W.heap.size (.slice aa J ca) (Ak l))/\b7 (Ext W wr))
 case atStart=>exact⟨0,_,_,_,[],ae b9,rfl,rfl,Vv,ae (bC.nil _ _),Uy,X2⟩
 case round =>
  obtain⟨g1,r7⟩:=b8 gk;subst r7;obtain⟨o7,o6⟩:=b8 wr;subst o6;obtain⟨k,a3,n3,p3,vs,HK,rfl,rfl,HV,zQ,DN,CT⟩:=hrel;have Db:=CT.o.size;by_cases hlt:k<J
  ·obtain⟨ga,Ol,_,_,_⟩:=DN.o.block hlt;obtain⟨ex,O,xW⟩:=Qi (Ak l) k;have CS:=ae xW;obtain⟨I,xo,ex1,ey1,rfl,Ht,y5,yq⟩:=DN.o.wK.at hlt;rw[xW]at Ht;simp only[Prod.mk.injEq]at Ht;obtain⟨rfl,rfl⟩:=Ht;simp only[Option.some.injEq,Addr.mk.injEq,and_true]at Ol;obtain⟨rfl,rfl⟩:=Ol;rw[Nat.zero_add]at y5 yq;obtain⟨X',hGO,Jy,H6,CH⟩:=HNV.o b9;have QW:=ae X';have N1:=ae hGO;have EI:=ae (show vs.length<=k by rw[zQ.o.len];exact qN _ _);have OM:=ae Jy;clear xW X' hGO Jy;have k7:Ext o7 o7.drew:=Ext.drew o7;by_cases FF:k=0;rotate_left;obtain⟨q,PU⟩:∃q,k=q+1:=⟨k-1,by omega⟩;obtain⟨x',y',BY⟩:=Qi (Ak l) q;obtain⟨xb2,xo2,u2,v2,Ry,Hw,Ov,Ou⟩:=DN.o.wK.at (k:=q) b9;simp only[Option.some.injEq,Addr.mk.injEq,and_true]at Ry;obtain⟨CE,DA⟩:=Ry;subst CE DA;rw[BY]at Hw;simp only[Prod.mk.injEq]at Hw;obtain⟨rfl,rfl⟩:=Hw;rw[Nat.zero_add]at Ov Ou;have ZM:0<k:=by omega
   have hqn:q<J:=by omega
   have HKG:=ae ZM;have Cn:=ae (show(Ak l)[k-1]?.getD (0,0)=(x',y')by rw[PU];exact BY);have Ce:IntKind.i64.wrap ((k:Int)-1)=(q:Int):=by rw[IntKind.wrap_i64];omega
   have A7:wrap64 ((k:Int)-1)=(q:Int):=by unfold wrap64;omega
   have AK:(k:Int)-1=(q:Int):=by omega
   have B7:IntKind.i64.wrap (q:Int)=(q:Int):=by rw[IntKind.wrap_i64];omega
   have BZ:wrap64 (q:Int)=(q:Int):=by unfold wrap64;omega
   clear BY PU FF
   focus
    cases wO:(ex == x')
    all_goals
     cases xM:(O == y')
   rotate_left 3
   ·have Eo:=ae (vz (l:=l) HKG.o (by rw[CS.o,Cn.o];exact Lv (by rw[wO,xM];rfl)));go_wp2_with fail
    go_region_held3 (fun w'=>w'.cell? ⟨I,k*2,none⟩=some (.int .i64 ex)/\w'.cell? ⟨I,k*2+1,none⟩=some (.int .i64 O)/\w'.cell? ⟨I,q*2,none⟩=some (.int .i64 x')/\w'.cell? ⟨I,q*2+1,none⟩=some (.int .i64 y')/\Ext o7 w')
     (exact⟨k7.k6 y5,k7.k6 yq,k7.k6 Ov,k7.k6 Ou,k7⟩)
     (fail)
    have HV2:=ae (HV.o.ext k7);have Eu:=ae (zQ.o.ext k7);have Sh:=ae (DN.o.ext k7);have xZ:=ae (CT.o.trans k7);clear Ce A7 AK B7 BZ;go_wp2_with fail
    go_roundg (g1-1)
    case measure=>have:=HK.o;omega
    case rel=>exact⟨k+1,a3,n3,p3,vs,ae (j4 HK.o),rfl,by go_num,HV2,ae (by rw[Eo.o];exact Eu.o),Sh,xZ⟩
   focus
    have OC:=ae (oV (l:=l) (k:=k) b9);rw[CS.o,JP.o]at OC;have ZM:¬0<k:=by omega
    clear FF;go_wp2_with fail;refine wp_region_held_drew (S:=(fun w'=>Ext o7 w')) e8 ?_ (fun k9=>?_)
    ·exact k7
    refine tk 0 ?_;refine tk 1 ?_;refine tk 2 ?_;refine sk 3 ?_;refine sk 4 ?_;refine sk 5 ?_;refine sk 6 ?_;refine sk 7 ?_;refine sk 8 ?_;refine sk 9 ?_;refine sk 10 ?_;refine sk 11 ?_;refine sk 12 ?_;refine tk 13 ?_;refine wpAnyH_done e8 ?_ _;obtain⟨wd,U⟩:=b8 o7.drew;rw[<-U]at k7 k9⊢;clear U k9 ZM
   rotate_left
   iterate 3
    focus
     have OC:=ae (oV (l:=l) (k:=k) (fun h=>Lu (x:=ex) (y:=O) (x':=x') (y':=y') (by rw[wO,xM];rfl) ((CS.o.symm.trans h.2).trans Cn.o)));rw[CS.o,JP.o]at OC;go_wp2_with fail
     go_region_held3 (fun w'=>w'.cell? ⟨I,k*2,none⟩=some (.int .i64 ex)/\w'.cell? ⟨I,k*2+1,none⟩=some (.int .i64 O)/\w'.cell? ⟨I,q*2,none⟩=some (.int .i64 x')/\w'.cell? ⟨I,q*2+1,none⟩=some (.int .i64 y')/\Ext o7 w')
      (exact⟨k7.k6 y5,k7.k6 yq,k7.k6 Ov,k7.k6 Ou,k7⟩)
      (fail)
     clear Ce A7 AK B7 BZ Ov Ou;obtain⟨wd,U⟩:=b8 o7.drew;rw[<-U]at k7⊢;clear U ZM wO xM hqn HKG Cn
    rotate_left
   all_goals
    have Vr:=ae (CT.o.trans k7);have HVd:=ae (HV.o.ext k7);have HRd:=ae (zQ.o.ext k7);have HCd:=ae (DN.o.ext k7);have hszd:=Vr.o.size;have yW:=ae (o8.yG wd wd.heap.size _ rfl (Nat.le_refl _));clear k7 y5 yq;go_wp2_with fail
    go_loopg [8,9] J (fun gk row ii wr=>∃(j s:Nat) (a4:j8) (n4 p4:Nat),b7 (gk+j=J)/\b7 (s=1+j)/\row=.slice a4 n4 p4/\ii=.int .i64 (s:Int)/\b7 (o8 wr wd.heap.size (.slice a4 n4 p4) (zp l (ex,O) j))/\b7 (Ext wd wr))
    case atStart=>exact⟨0,1,_,_,_,ae b9,ae rfl,rfl,rfl,yW,ae (Ext.alloc _ _)⟩
    case round =>
     obtain⟨g2,xK⟩:=b8 gk;subst xK;obtain⟨wr2,wT⟩:=b8 wr;subst wT;obtain⟨j,s,a4,n4,p4,HJ,HS,rfl,rfl,Vw,Z⟩:=hrel;have hszj:=Z.o.size;have c0:=(Vr.o.trans Z.o).k6 K0.o;have c1:=(Vr.o.trans Z.o).k6 K1.o;have Cu:1<=s:=by have:=HS.o;omega
     by_cases yp:s+1<n
     ·have Ah:j<J:=by have:=HS.o;have:=OM.o;omega
      have AE:=nj (p:=p) (HI.o.ext (Vr.o.trans Z.o)) (HR.o.ext (Vr.o.trans Z.o)) N1.o (s:=s) b9;obtain⟨u,v,J3⟩:=Qi l j;have hex:yU V X s=some (u,v):=by
       have h1:=QW.o;rw[ji (cJ h1).1]at h1;have h2:=gN h1 j (by have:=yD.o;have:=OM.o;omega);rw[J3]at h2;rw[HS.o];exact h2
      rw[hex]at AE;have AE:=ae AE;have OA:=ae J3;clear J3 hex;go_wp2_with fail;refine AE.o.mono ?_;rintro e R ⟨rfl,wS⟩;obtain⟨G,B7⟩:=b8 (R.alloc (.cells #[.int .i64 u,.int .i64 v] 46));have xG:Ext R G:=by rw[B7];exact Ext.alloc _ _
      have d0:G.cell? ⟨R.heap.size,0,none⟩=some (.int .i64 u):=by rw[B7];simp
      have d1:G.cell? ⟨R.heap.size,1,none⟩=some (.int .i64 v):=by rw[B7];simp
      have Ud:=ae ((Z.o.trans wS).trans xG);have YS:=ae ((Vw.o.ext wS).ext xG);obtain⟨yb,yo,ex1,ey1,B3,Ht,f0,f1⟩:=(HCd.o.ext Ud.o).wK.at hlt;rw[CS.o]at Ht;simp only[Prod.mk.injEq]at Ht;obtain⟨rfl,rfl⟩:=Ht;simp only[Option.some.injEq,Addr.mk.injEq,and_true]at B3;obtain⟨rfl,rfl⟩:=B3;rw[Nat.zero_add]at f0 f1;obtain⟨K,hK⟩:=b8 (wU (u,v) (ex,O));have Bg:=ae hK;clear wS xG c0 c1 hK;go_upto_region 12 with fail;rw[<-B7];clear B7;by_cases yP:K<0
      ·have Eo:=ae (iX (l:=l) (e:=(ex,O)) (k:=j) (by rw[OA.o,<-Bg.o];exact yP));have hng:¬K≥0:=by omega
       have k7:Ext G G.drew:=Ext.drew G;have xI:=k7;have k8:=ae (fun(w':World) (h:Ext G w')=>(⟨h.k6 d0,h.k6 d1,h.k6 f0,h.k6 f1,h⟩:w'.cell? ⟨R.heap.size,0,none⟩=some (.int .i64 u)/\w'.cell? ⟨R.heap.size,1,none⟩=some (.int .i64 v)/\w'.cell? ⟨I,k*2,none⟩=some (.int .i64 ex)/\w'.cell? ⟨I,k*2+1,none⟩=some (.int .i64 O)/\Ext G w'))
       go_region_held3 (fun w'=>w'.cell? ⟨R.heap.size,0,none⟩=some (.int .i64 u)/\w'.cell? ⟨R.heap.size,1,none⟩=some (.int .i64 v)/\w'.cell? ⟨I,k*2,none⟩=some (.int .i64 ex)/\w'.cell? ⟨I,k*2+1,none⟩=some (.int .i64 O)/\Ext G w')
        (with_reducible exact k8.o _ k7)
        (first
          | (go_at_call 118
             (with_reducible refine(eo _ _ _ _ _).mono ?_)
             rw[<-Bg.o];rintro e w5 ⟨rfl,wH⟩;have k7:Ext G w5:=k7.trans wH
             have Mk:=k7.size)
          | fail)
       clear k8 xI;have xL:=ae (YS.o.ext k7);have Br:=ae (Ud.o.trans k7);clear d0 d1 f0 f1;go_wp2_with fail
       go_roundg (g2-1)
       case measure=>have:=HJ.o;omega
       case rel=>exact⟨j+1,s+1,a4,n4,p4,ae (j4 HJ.o),ae (j4 HS.o),rfl,by go_num,ae (by rw[Eo.o];exact xL.o),Br⟩
      ·have Un:=ae (show zp l (ex,O) (j+1)=zp l (ex,O) j++[(s:Int)]from(iY (l:=l) (e:=(ex,O)) (k:=j) (by rw[OA.o,<-Bg.o];exact yP)).trans (by rw[HS.o,Nat.add_comm 1 j]));have hng:K≥0:=by omega
       have zR:=ae (iB l (ex,O) j);have k7:Ext G G.drew:=Ext.drew G;have xI:=k7;have k8:=ae (fun(w':World) (h:Ext G w')=>(⟨h.k6 d0,h.k6 d1,h.k6 f0,h.k6 f1,h⟩:w'.cell? ⟨R.heap.size,0,none⟩=some (.int .i64 u)/\w'.cell? ⟨R.heap.size,1,none⟩=some (.int .i64 v)/\w'.cell? ⟨I,k*2,none⟩=some (.int .i64 ex)/\w'.cell? ⟨I,k*2+1,none⟩=some (.int .i64 O)/\Ext G w'))
       go_region_held3 (fun w'=>w'.cell? ⟨R.heap.size,0,none⟩=some (.int .i64 u)/\w'.cell? ⟨R.heap.size,1,none⟩=some (.int .i64 v)/\w'.cell? ⟨I,k*2,none⟩=some (.int .i64 ex)/\w'.cell? ⟨I,k*2+1,none⟩=some (.int .i64 O)/\Ext G w')
        (with_reducible exact k8.o _ k7)
        (first
          | (go_at_call 118
             (with_reducible refine(eo _ _ _ _ _).mono ?_)
             rw[<-Bg.o];rintro e w5 ⟨rfl,wH⟩;have k7:Ext G w5:=k7.trans wH
             have Mk:=k7.size)
          | fail)
       clear k8 xI;have xL:=ae (YS.o.ext k7);have Br:=ae (Ud.o.trans k7);have A8:=Br.o.size;clear d0 d1 f0 f1
       go_wp2_with (first
        | (at_builtin
           have T1:=xL.o.ext (Ext.alloc w5 (.cells #[.int .i64 (s:Int)] 3));refine bm rfl _ _ rfl wd.heap.size (.slice a4 n4 p4) _ rfl T1 _ 1 _ [(s:Int)] rfl (Ints.Ad _ _ _ _ e7) (j4 zR.o) (by simp;omega) ?_;intro v6 w6 ho hg l7;obtain⟨a6,n6,p6,rfl,Jg⟩:=ho.var;have BU:=ae ho;have X6:=ae (al (Br.o.trans (Ext.alloc w5 (.cells #[.int .i64 (s:Int)] 3))) hg (fun q hq=>(xL.o.lt q hq).1))
           clear ho hg l7 T1))
       go_roundg (g2-1)
       case measure=>have:=HJ.o;omega
       case rel=>exact⟨j+1,s+1,a6,n6,p6,ae (j4 HJ.o),ae (j4 HS.o),rfl,by go_num,ae (by rw[Un.o];exact BU.o),X6⟩
     ·have DE:j=J:=by have:=HJ.o;have:=HS.o;have:=OM.o;omega
      subst DE
      go_wp2_with (first
       | (at_builtin
          have T1:=(HVd.o.ext Z.o).ext (Ext.alloc wr2 (.cells #[.slice a4 n4 p4] 24));refine eL rfl _ _ rfl W.heap.size (.slice a3 n3 p3) vs rfl T1 _ _ 1 rfl (by simp;rfl) rfl (j4 EI.o) (by simp;omega) ?_;intro v6 w6 ho hg l7;obtain⟨a6,n6,p6,rfl,Jg⟩:=ho.var;have BU:=ae ho;have Sg:=ae (((HCd.o.ext Z.o).ext (Ext.alloc wr2 (.cells #[.slice a4 n4 p4] 24))).TN T1 hg);have Et:=ae (((HRd.o.snoc Z.o Vw.o hszd).ext (Ext.alloc _ _)).AM T1 hg);have X6:=ae (al ((Vr.o.trans Z.o).trans (Ext.alloc wr2 (.cells #[.slice a4 n4 p4] 24))) hg (fun q hq=>(HVd.o.lt q hq).1))
          clear ho hg l7 T1))
      go_roundg (g1-1)
      case measure=>have:=HK.o;omega
      case rel=>exact⟨k+1,a6,n6,p6,_,ae (j4 HK.o),rfl,by go_num,BU,ae (by rw[OC.o];exact Et.o),Sg,X6⟩
  ·have xQ:k=J:=by have:=HK.o;omega
   subst xQ;go_wp2_with fail;go_ret;exact⟨⟨_,rfl,by rw[HLS.o,JP.o];exact dI.mono' ⟨vs,HV.o,zQ.o⟩ (j4 yI.o)⟩,HX.o.trans CT.o⟩
end Go.Proofs.YtalmoolkhcgmmaaGreat
