import Derived.Test.YtalmoolkhcgmmaaGreatNqAltG14
import Derived.Test.YtalmoolkhcgmmaaGreatNqAltG6
import Derived.Test.YtalmoolkhcgmmaaGreatNqAltG10
import Derived.Test.YtalmoolkhcgmmaaGreatNqAltG11
import Derived.Test.YtalmoolkhcgmmaaGreatNqAltG7
import Derived.Test.YtalmoolkhcgmmaaGreatNqAltG15
import Derived.Test.YtalmoolkhcgmmaaGreatNqAltG3
import Derived.Test.YtalmoolkhcgmmaaGreatNqAltG5
import Derived.StillTailTactics
import Derived.Test.YtalmoolkhcgmmaaGreatNqAltG8
import Derived.Deep.RegionLaw
import Derived.Laws.EntriesVeiled
set_option linter.unusedVariables false
set_option linter.unusedSimpArgs false
namespace Go.Proofs.YtalmoolkhcgmmaaGreat
variable{n k fn A1:Nat}{L:j5}{w:World}{a fa:j8}{V:j9}
set_option maxHeartbeats 16000000
set_option maxRecDepth 100000
open Go.RowKit
theorem nd{n d:Int}(h:(aL n d).2=false):(aL n d).1=(0,0):=by
 have hc:∀p,(zB p).2=false->(zB p).1=(0,0):=fun p h=>by unfold zB at h⊢;split at h<;>simp_all
 unfold aL at h⊢
 split at h
 ·next h1=>rw[if_pos h1]
 ·next h1 =>
  rw[if_neg h1]
  split at h
  ·next h2=>rw[if_pos h2];exact hc _ h
  ·next h2=>rw[if_neg h2];exact hc _ h
theorem we(n d:Int):-1000000000<=(aL n d).1.1/\(aL n d).1.1<=1000000000:=by
 cases h:(aL n d).2
 ·rw[nd h];simp
 ·have:=aQ (hJ h);omega
theorem rD(a b:k5):-1000000000<=(xy a b).1.1/\(xy a b).1.1<=1000000000:=by
 unfold xy;split
 ·exact we _ _
 ·simp
abbrev IF:=Int×Int×Bool×Int×Int
def Ek:Enc IF:=⟨fun x=>[.int .i64 x.1,.int .i64 x.2.1,.bool x.2.2.1,.int .i64 x.2.2.2.1,.int .i64 x.2.2.2.2],5,fun _=>rfl,by omega,fun x u h=>by simp only[List.mem_cons,List.not_mem_nil,or_false]at h;rcases h with rfl|rfl|rfl|rfl|rfl<;>rfl⟩
theorem Tryz.IL:(Tryz.prog.info? 103).map (fun i=>(i.zero,i.size,i.bytes))=some (some (.agg #[.int .i64 0,.int .i64 0,.bool false,.int .i64 0,.int .i64 0]),5,40):=by kernel_rfl
def cD(V:j9)(f:Int×Int×Int):k5:=(xy f.2 (V[f.1.toNat]?.getD 0,1)).1
def y6(s:Int)(c:k5):List IF:=[(s,1,false,c.1,c.2),(s,-1,false,-c.1,c.2)]
def bu(V:j9)(l:j9):List IF:=l.map fun s=>(s,1,true,-(V[s.toNat]?.getD 0),1)
def aN(V:j9)(L:j5):List IF:=L.flatMap fun f=>y6 f.1 (cD V f)
def bZ(V:j9)(L:j5):List IF:=bu V (bd L (V.length-2))++aN V L++y6 ((V.length:Int)-1) (-(V[V.length-1]?.getD 0),1)
def fo(V:j9)(L:j5)(k:Nat):List IF:=bu V (bd L (V.length-2))++aN V (L.take k)
theorem li(V:j9){l:j9}(h:k<l.length):bu V (l.take k)++[(l[k]?.getD 0,1,true,-(V[(l[k]?.getD 0).toNat]?.getD 0),1)]=bu V (l.take (k+1)):=by
 rw[cW h];simp[bu]
theorem ch(V:j9)(l:j9):(bu V l).length=l.length:=by simp[bu]
theorem eR(V:j9):∀L:j5,(aN V L).length=2*L.length
 | []=>rfl
 | f::L=>by
   have:=eR V L;simp only[aN,List.flatMap_cons,List.length_append,y6,List.length_cons,List.length_nil]at this⊢;omega
theorem tM(V:j9)(h:k<L.length){f:Int×Int×Int}(e:L[k]?.getD (0,0,0)=f):fo V L k++y6 f.1 (cD V f)=fo V L (k+1):=by
 subst e;unfold fo aN;rw[fA h];simp
theorem o8.TO{w':World}{base base':Nat}{v G:Value}{l:j9}{α:Type}{E:Enc α}{t:TypeId}{I:List α}(h:o8 w base v l)(h':xm E t w base' G I)(hne:3≠t)(hg:w.grownBy w' G.ownBlock):o8 w' base v l :=
 h.keep fun k hk=>hg.block k (h.lt k hk).2 fun e=>aY hne h h' k hk e.symm
theorem ry(x:Int){cap:Nat}(hV:Ints w a n cap V)(I5:∀y∈V,-500<=y/\y<=500)(h2:2<=n)(hn:n<=1000)(h:zk w fa fn A1 L)(hL:∀f∈L,1<=f.1/\f.1+2<=n)(hfn:fn<=1048576):
 Calls Tryz.prog 77 #[pair x a n cap,.slice fa fn A1] w fun e w'=>(∃v,e=.returned v/\xm Ek 103 w' w.heap.size v (bZ V L))/\Ext w w':=by
 obtain⟨W,hW⟩:=b8 (w.alloc (.cells #[.int .i64 x,.slice a n cap] 26));have HW:=ae hW;have yI:=ae (show W.heap.size=w.heap.size+1 by rw[hW];simp);have wM:=ae (show Ext w W by rw[hW];exact Ext.alloc _ _);have Kl:=ae (show W.cell? ⟨w.heap.size,1,none⟩=some (.slice a n cap)by rw[hW];simp);have Jd:=ae (show W.cell? ⟨w.heap.size,0,none⟩=some (.int .i64 x)by rw[hW];simp);have yD:=ae hV.hlen;have Mc:=hV.o3;have Mb:=hV.l9;have MK:=h.o3;have MJ:=h.l9;have HV:=ae (hV.ext wM.o);have Ha:=ae I5;have EJ:=ae h.hlen;have HF:=ae (h.ext wM.o);have y4:=ae hL;have HO:=ae (xm.yG Ek 103 W (w.heap.size+1) (w.heap.size+1) yI.o.symm (by rw[yI.o];exact Nat.le_refl _));have JW:=ae (kw (w:=W.alloc (.cells #[] 103)) x a n cap hn (HF.o.ext (Ext.alloc _ _)));have C5:=ae (ew L (n-2));have Ks:=ae (fun s=>iU (L:=L) (m:=n-2) (s:=s));rw[hW]at JW;clear h hL hV I5;go_enter Tryz.func77,Tryz.ntmps77
 go_wp2_with fail;refine JW.o.mono ?_;rw[<-hW];clear hW;rintro e w1 ⟨⟨vf,rfl,P5⟩,wO⟩;obtain⟨af,m,cf,rfl,Ve⟩:=P5.var;have UI:=ae (P5.mono (base':=w.heap.size+1) (by rw[World.size_alloc,yI.o];omega));have Ge:=ae Ve.out;have X1:=ae ((Ext.alloc W _).trans wO);have xC:=ae (HO.o.ext wO);have My:=P5.ints.o3;have Mw:=P5.ints.l9;have ZJ:m<=1000:=by have:=C5.o;have:=Ge.o;omega
 clear P5 wO Ve JW;go_wp2_with fail
 go_loopg [5,7] m (fun gk oo ii wr=>∃(k:Nat) (a1:j8) (n1 p1:Nat),b7 (gk+k=m)/\ii=.int .i64 (k:Int)/\oo=.slice a1 n1 p1/\b7 (xm Ek 103 wr (w.heap.size+1) (.slice a1 n1 p1) (bu V ((bd L (n-2)).take k)))/\b7 (o8 wr (w.heap.size+1) (.slice af m cf) (bd L (n-2)))/\b7 (Ext W wr))
 case atStart=>exact⟨0,_,_,_,ae b9,rfl,rfl,xC,UI,X1⟩
 case round =>
  obtain⟨g1,r7⟩:=b8 gk;subst r7;obtain⟨o7,o6⟩:=b8 wr;subst o6;obtain⟨k,a1,n1,p1,O,rfl,rfl,U,Sb,HX⟩:=hrel;have hsz:=HX.o.size;rw[yI.o]at hsz;have hcv:o7.cell? ⟨w.heap.size,1,none⟩=some (.slice a n cap):=HX.o.k6 Kl.o;by_cases hlt:k<m
  ·obtain⟨b,off,he,U3⟩:=Sb.o.ints.at hlt;subst he;obtain⟨s,hs⟩:=b8 ((bd L (n-2))[k]?.getD 0);rw[<-hs]at U3;have yQ:k<(bd L (n-2)).length:=by rw[Ge.o];exact hlt
   have hsm:=Ks.o s (by rw[hs,List.getElem?_eq_getElem yQ];exact List.getElem_mem yQ);obtain⟨t,rfl⟩:∃t:Nat,s=t:=⟨s.toNat,by omega⟩;have S2:t<n:=by omega
   obtain⟨K,G,GY,J⟩:=HV.o.at S2;subst GY;have F0:=dM Ha.o t;obtain⟨y,hy⟩:=b8 (V[t]?.getD 0);rw[<-hy]at J F0;have HVC:=ae J;replace J:=HX.o.k6 J
   have AU:=ae (show bu V ((bd L (n-2)).take k)++[((t:Int),1,true,-y,1)]=bu V ((bd L (n-2)).take (k+1))by
    rw[<-li V yQ,<-hs,hy];rfl)
   have GX:IntKind.i64.wrap (-y)=-y:=by rw[IntKind.wrap_i64];omega
   have Ji:=ae (show(bu V ((bd L (n-2)).take k)).length<=1000 by rw[ch,List.length_take];have:=C5.o;omega);have k7:Ext o7 o7.drew:=Ext.drew o7;clear hs hsm hy yQ;have Fu:=ae (show some b≠(Value.slice a1 n1 p1).ownBlock from fun e=>aY (by decide) Sb.o U.o b rfl e.symm);have BH:Ext W o7:=HX.o;have k8:=ae (fun(w':World) (h:Ext W w') (hc:w'.cell? ⟨b,off+k,none⟩=some (.int .i64 (t:Int)))=>(⟨h.k6 Kl.o,hc,h.k6 HVC.o,h⟩:w'.cell? ⟨w.heap.size,1,none⟩=some (.slice (some ⟨K,G,none⟩) n cap)/\w'.cell? ⟨b,off+k,none⟩=some (.int .i64 (t:Int))/\w'.cell? ⟨K,G+t,none⟩=some (.int .i64 y)/\Ext W w'));go_wp2_with fail
   go_region_held3 (fun w'=>w'.cell? ⟨w.heap.size,1,none⟩=some (.slice (some ⟨K,G,none⟩) n cap)/\w'.cell? ⟨b,off+k,none⟩=some (.int .i64 (t:Int))/\w'.cell? ⟨K,G+t,none⟩=some (.int .i64 y)/\Ext W w')
    (first
      | with_reducible exact k8.o _ (BH.trans k7) (k7.k6 U3)
      | with_reducible exact k8.o _ (BH.trans (k7.trans (Ext.alloc _ _))) ((k7.trans (Ext.alloc _ _)).k6 U3)
      | with_reducible exact k8.o _ X5.o UN.o)
    (first
      | (go_at_call 32
         (with_reducible refine(cl _ _).mono ?_)
         rintro e w3 ⟨rfl,Z⟩;have k7:Ext o7 w3:=k7.trans Z
         have CY:=k7.size)
      | (refine ci _ j0 ?_
         refine fF Ek Tryz.IL rfl Tryz.underlying100 (by decide) _ _ j0 (w.heap.size+1) (.slice a1 n1 p1) _ j0 (U.o.ext (k7.trans (Ext.alloc _ _))) _ 1 1 [((t:Int),1,true,-y,1)] j0 (F8.lit Ek _ _ _ 1 j0 _ j0 _ j0 b9) (j4 Ji.o) (by simp;omega) ?_;intro v5 w5 ho hg l7;have Sa:=ae ((Sb.o.ext (k7.trans (Ext.alloc _ _))).TO (U.o.ext (k7.trans (Ext.alloc _ _))) (by decide) hg);have UN:=ae (hg.cell ((k7.trans (Ext.alloc _ _)).k6 U3) Fu.o);obtain⟨a5,n5,p5,rfl,A9⟩:=ho.var;have xL:=ae ho;have X5:=ae (al (w0:=W) (HX.o.trans (k7.trans (Ext.alloc _ _))) hg (fun j hj=>by have:=U.o.lt j hj;rw[yI.o];omega))
         clear ho hg l7)
      | fail)
   clear BH;go_wp2_with fail
   go_roundg (g1-1)
   case measure=>have:=O.o;omega
   case rel=>exact⟨k+1,a5,n5,p5,ae (j4 O.o),by go_num,rfl,ae (by rw[<-AU.o];exact xL.o),Sa,X5⟩
  ·have Bf:k=m:=by have:=O.o;omega
   subst Bf
   have zW:=ae (show bu V ((bd L (n-2)).take k)=fo V L 0 by
    have:(bd L (n-2)).take k=bd L (n-2):=List.take_of_length_le (by rw[Ge.o];exact Nat.le_refl _)
    rw[this];unfold fo;rw[yD.o];simp[aN])
   rw[zW.o]at U
   have B6:=ae (fun j=>show(fo V L j).length<=1000+2*fn by
    unfold fo;rw[List.length_append,ch,eR,List.length_take,yD.o];have:=C5.o;have:=EJ.o;omega)
   clear Ge Sb O;go_wp2_with fail
   go_loopg [5,8] (fn+1) (fun gk oo ii wr=>∃(k:Nat) (a1:j8) (n1 p1:Nat),b7 (gk+k=fn+1)/\ii=.int .i64 (k:Int)/\oo=.slice a1 n1 p1/\b7 (xm Ek 103 wr (w.heap.size+1) (.slice a1 n1 p1) (if k<=fn then fo V L k else bZ V L))/\b7 (Ext W wr))
   case atStart=>exact⟨0,_,_,_,ae b9,rfl,rfl,ae (by rw[if_pos b9];exact U.o),HX⟩
   case round =>
    obtain⟨g2,xK⟩:=b8 gk;subst xK;obtain⟨I,wT⟩:=b8 wr;subst wT;obtain⟨k,a2,n2,p2,O,rfl,rfl,JN,xZ⟩:=hrel;have Dc:=xZ.o.size;rw[yI.o]at Dc;have Tu:I.cell? ⟨w.heap.size,1,none⟩=some (.slice a n cap):=xZ.o.k6 Kl.o;by_cases hle:k<=fn
    ·rw[if_pos hle]at JN;obtain⟨u,hu⟩:=b8 (n-1);have R:(n:Int)-1=(u:Int):=by omega
     have F2:u<n:=by omega
     obtain⟨K,G,GY,J⟩:=HV.o.at F2;subst GY;have F0:=dM Ha.o u;obtain⟨y,hy⟩:=b8 (V[u]?.getD 0);rw[<-hy]at J F0;have HVC:=ae J;replace J:=xZ.o.k6 J;have HU:=ae hu;have HY:=ae hy;have GX:IntKind.i64.wrap (-y)=-y:=by rw[IntKind.wrap_i64];omega
     clear hu hy
     go_upto_if 59 with(first|(go_at_call 32;refine(cl _ _).mono ?_;rintro e w3 ⟨rfl,Z⟩;have CY:=Z.size))
     have Bh:=ae (aj.new Z (-y) 1);have hcv3:=Z.k6 Tu
     go_cut [9,10] (fun ss cc wx=>∃(S:Int) (g:Nat) (p q:Int),ss=.int .i64 S/\cc=.pointer (some ⟨g,0,none⟩)/\b7 (aj I wx g p q)/\b7 (fo V L k++y6 S (p,q)=if k+1<=fn then fo V L (k+1) else bZ V L)/\b7 (-1000000000<=p/\p<=1000000000))
     case first =>
      by_cases yp:k<fn
      ·obtain⟨fb,Ei,c,fx,fy,Tq,P6,IY,MM,ML⟩:=HF.o.at yp;subst Tq;have yQ:k<L.length:=by rw[EJ.o];exact yp
       have Eb:=y4.o (c,fx,fy) (by rw[<-P6,List.getElem?_eq_getElem yQ];exact List.getElem_mem yQ);simp only at Eb;obtain⟨t,rfl⟩:∃t:Nat,c=t:=⟨c.toNat,by omega⟩;have S2:t<n:=by omega
       obtain⟨Jp,voff',GY,Gr⟩:=HV.o.at S2;simp only[Option.some.injEq,Addr.mk.injEq,and_true]at GY;obtain⟨rfl,rfl⟩:=GY;obtain⟨z,hz⟩:=b8 (V[t]?.getD 0);rw[<-hz]at Gr;obtain⟨p,q,ok,xk⟩:∃p q ok,xy (fx,fy) (z,1)=((p,q),ok):=⟨_,_,_,rfl⟩;have yt:=ae xk;have Uu:=ae (show -1000000000<=p/\p<=1000000000 by have:=rD (fx,fy) (z,1);rw[xk]at this;exact this)
       have RZ:=ae (show fo V L k++y6 (t:Int) (p,q)=fo V L (k+1)by
        rw[<-tM V yQ P6];unfold cD;simp only;rw[show((t:Int)).toNat=t by simp,<-hz,xk])
       have XW:=ae (xZ.o.trans Z);replace IY:=XW.o.k6 IY;have kf1:=xZ.o.k6 MM;have kf2:=xZ.o.k6 ML;have kvt:=xZ.o.k6 Gr;replace MM:=XW.o.k6 MM;replace ML:=XW.o.k6 ML;replace Gr:=XW.o.k6 Gr;have hfl:fb<w3.heap.size:=World.block_lt_of_cell? _ _ IY;have F1:K<w3.heap.size:=World.block_lt_of_cell? _ _ Gr;have r9:aj I (w3.alloc (.cells #[.int .i64 (-y),.int .i64 1] 46)).drew w3.heap.size (-y) 1:=Bh.o.grow (Ext.drew _);have k7:=r9.ext;clear P6 yQ Eb hz xk R J;have k8:=ae (fun(w':World) (h:Ext I w')=>(⟨h.k6 Tu,h.k6 kf1,h.k6 kf2,h.k6 kvt,h⟩:w'.cell? ⟨w.heap.size,1,none⟩=some (.slice (some ⟨K,G,none⟩) n cap)/\w'.cell? ⟨fb,Ei+k*3+1,none⟩=some (.int .i64 fx)/\w'.cell? ⟨fb,Ei+k*3+2,none⟩=some (.int .i64 fy)/\w'.cell? ⟨K,G+t,none⟩=some (.int .i64 z)/\Ext I w'));clear kf1 kf2 kvt;go_wp2_with fail
       go_region_held3 (fun w'=>w'.cell? ⟨w.heap.size,1,none⟩=some (.slice (some ⟨K,G,none⟩) n cap)/\w'.cell? ⟨fb,Ei+k*3+1,none⟩=some (.int .i64 fx)/\w'.cell? ⟨fb,Ei+k*3+2,none⟩=some (.int .i64 fy)/\w'.cell? ⟨K,G+t,none⟩=some (.int .i64 z)/\Ext I w')
        (first
          | with_reducible exact k8.o _ k7
          | with_reducible exact k8.o _ (r9.put _ _).ext)
        (first
          | (go_at_call 32
             (with_reducible refine(cl _ _).mono ?_)
             rintro e w4 ⟨rfl,xG⟩;have r9:=r9.grow xG;have k7:=r9.ext;have AR:=r9.c0;have zN:=r9.c1
             have Qd:=r9.free)
          | (go_at_call 120
             (with_reducible refine(lY _ _ _ _ _).mono ?_)
             rw[yt.o];rintro e w5 ⟨rfl,zh⟩;have r9:=r9.grow zh;have k7:=r9.ext;have AR:=r9.c0;have zN:=r9.c1
             have Qd:=r9.free)
          | fail)
       go_wp2_with fail;go_meet;exact⟨_,_,_,_,rfl,rfl,ae (r9.put _ _),ae (by rw[if_pos b9];exact RZ.o),Uu⟩
      ·have Vb:k=fn:=by omega
       subst Vb;go_wp2_with fail;go_meet
       exact⟨_,_,_,_,rfl,rfl,Bh,ae (by
        rw[if_neg b9];unfold fo bZ;rw[List.take_of_length_le (by rw[EJ.o];exact Nat.le_refl _),yD.o,<-HU.o,<-HY.o];rw[R]),ae b9⟩
     obtain⟨S,g,p,q,rfl,rfl,HB,HS,Uu⟩:=hcut;have Rm:=Uu.o;have AR:=HB.o.c0;have zN:=HB.o.c1;have XC:=ae (xZ.o.trans HB.o.ext);have DN:=ae (JN.o.ext HB.o.ext);have Fu:=ae (av DN.o HB.o.cell (by decide));have N6:=ae (B6.o k);have BH:Ext W wc:=XC.o;have k7:Ext wc wc.drew:=Ext.drew wc;have EO:=XC.o.size;rw[yI.o]at EO;have k8:=ae (fun(w':World) (h:Ext W w') (h0:w'.cell? ⟨g,0,none⟩=some (.int .i64 p)) (h1:w'.cell? ⟨g,1,none⟩=some (.int .i64 q))=>(⟨h0,h1,h⟩:w'.cell? ⟨g,0,none⟩=some (.int .i64 p)/\w'.cell? ⟨g,1,none⟩=some (.int .i64 q)/\Ext W w'));clear hcv3 Tu J R;go_wp2_with fail
     go_region_held3 (fun w'=>w'.cell? ⟨g,0,none⟩=some (.int .i64 p)/\w'.cell? ⟨g,1,none⟩=some (.int .i64 q)/\Ext W w')
      (first
        | with_reducible exact k8.o _ (BH.trans k7) (k7.k6 AR) (k7.k6 zN)
        | with_reducible exact k8.o _ (BH.trans (k7.trans (Ext.alloc _ _))) ((k7.trans (Ext.alloc _ _)).k6 AR) ((k7.trans (Ext.alloc _ _)).k6 zN)
        | with_reducible exact k8.o _ X5.o UN.o Sg.o)
      (first
        | (go_at_call 36
           (with_reducible refine(fE _ _ _ b9 b9).mono ?_)
           rintro e w4 ⟨rfl,xG⟩;have k7:Ext wc w4:=k7.trans xG
           have J4:=k7.size)
        | (refine ci _ j0 ?_
           refine fF Ek Tryz.IL rfl Tryz.underlying100 (by decide) _ _ j0 (w.heap.size+1) (.slice a2 n2 p2) _ j0 (DN.o.ext (k7.trans (Ext.alloc _ _))) _ 2 2 (y6 S (p,q)) j0 (F8.lit Ek _ _ _ 2 j0 _ j0 _ j0 b9) (j4 N6.o) (by simp;omega) ?_;intro v5 w5 ho hg l7;have UN:=ae (hg.cell ((k7.trans (Ext.alloc _ _)).k6 AR) Fu.o);have Sg:=ae (hg.cell ((k7.trans (Ext.alloc _ _)).k6 zN) Fu.o);obtain⟨a5,n5,p5,rfl,A9⟩:=ho.var;have xL:=ae ho;have X5:=ae (al (w0:=W) (XC.o.trans (k7.trans (Ext.alloc _ _))) hg (fun j hj=>by have:=DN.o.lt j hj;rw[yI.o];omega))
           clear ho hg l7)
        | fail)
     clear BH;go_wp2_with fail
     go_roundg (g2-1)
     case measure=>have:=O.o;omega
     case rel=>exact⟨k+1,a5,n5,p5,ae (j4 O.o),by go_num,rfl,ae (by rw[<-HS.o];exact xL.o),X5⟩
    ·have Vb:k=fn+1:=by have:=O.o;omega
     have WT:¬((k:Int)<=(fn:Int)):=by omega
     rw[if_neg hle]at JN;go_wp2_with fail;go_ret;exact⟨⟨_,rfl,JN.o.mono (Nat.le_succ _)⟩,wM.o.trans xZ.o⟩
def pos(ord:j9)(k:Nat):Nat:=(ord[k]?.getD 0).toNat
theorem tX{p:Int}(h:aZ p V=true):∀i:Nat,-500<=V[i]?.getD 0/\V[i]?.getD 0<=500:=fun i=>by
 obtain⟨_,_,_,_,_,_,G⟩:=aW h;by_cases hi:i<V.length
 ·have:=G _ (List.getElem_mem hi);simpa[hi]using this
 ·simp[List.getElem?_eq_none (by omega:V.length<=i)]
theorem zk.take{cap:Nat}{l:j5}(h:zk w a n cap l)(hk:k<=n):zk w a k cap (l.take k) :=
 ⟨by have:=h.hlen;simp;omega,by have:=h.o3;omega,h.l9,fun j hj=>by
  obtain⟨b,off,e,hc⟩:=h.cell j b9;refine⟨b,off,e,fun i hi=>?_⟩;have:=hc i b9
  rwa [List.getElem?_take,if_pos hi]⟩
theorem zk.drewN{cap:Nat}{l:j5}(h:zk w a n cap l)(m:Nat):zk (w.drewN m) a n cap l:=h.ext (below_drewN (Ext.refl w) m)
def CC(L:j5)(hi:Int)(k:Nat):Bool:=(List.range k).all fun i=>wJ (L[i]?.getD (0,0,0)).1 1 hi&&!yw (L.take i) (L[i]?.getD (0,0,0)).1
theorem pe(L:j5)(hi:Int)(k:Nat):CC L hi (k+1)=(CC L hi k&&(wJ (L[k]?.getD (0,0,0)).1 1 hi&&!yw (L.take k) (L[k]?.getD (0,0,0)).1)):=by simp[CC,List.range_succ]
theorem ij{hi:Int}{m:Nat}(h:(wJ (L[k]?.getD (0,0,0)).1 1 hi&&!yw (L.take k) (L[k]?.getD (0,0,0)).1)=false)(hk:k<m):CC L hi m=false:=by
 rw[CC,List.all_eq_false];exact⟨k,List.mem_range.2 hk,by rw[h];simp⟩
theorem Lx{hi:Int}(h:CC L hi L.length=true):∀f∈L,1<=f.1/\f.1<=hi:=by
 intro f hf;obtain⟨k,hk,rfl⟩:=List.getElem_of_mem hf;have:=(List.all_eq_true.1 h) k (List.mem_range.2 hk);rw[List.getElem?_eq_getElem hk]at this;simp only[Option.getD_some,Bool.and_eq_true,wJ,decide_eq_true_eq]at this;exact this.1
def dE(p:Int)(V:j9)(L:j5):Bool:=aZ p V&&(decide (2<=p)&&(CC L ((V.length:Int)-2) L.length&&decide (0<(bd L (V.length-2)).length)))
theorem I9(h2:2<=n)(h5:n<=5):4<=cN n:=by
 have:n=2∨n=3∨n=4∨n=5:=by omega
 rcases this with rfl|rfl|rfl|rfl<;>decide
theorem wq{p:Int}{cap:Nat}(J:Ints w a n cap V)(h:zk w fa fn A1 L)(hfn:fn<=1048576):
 Calls Tryz.prog 76 #[pair p a n cap,.slice fa fn A1] w fun e w'=>e=.returned (.bool (dE p V L))/\Ext w w':=by
 obtain⟨W,hW⟩:=b8 (w.alloc (.cells #[.int .i64 p,.slice a n cap] 26));have yI:=ae (show W.heap.size=w.heap.size+1 by rw[hW];simp);have wM:=ae (show Ext w W by rw[hW];exact Ext.alloc _ _);have Kl:=ae (show W.cell? ⟨w.heap.size,1,none⟩=some (.slice a n cap)by rw[hW];simp);have O:=ae (show W.cell? ⟨w.heap.size,0,none⟩=some (.int .i64 p)by rw[hW];simp);have yD:=ae J.hlen;have Mc:=J.o3;have Mb:=J.l9;have MK:=h.o3;have MJ:=h.l9;have Z:=ae h.hlen;have HF:=ae (h.ext wM.o);have HC:=ae (ep (p:=p) (J.ext wM.o));have Dw:=ae (J.ext wM.o);clear h J;cases hg:aZ p V
 ·have HG:=ae (show dE p V L=false by unfold dE;rw[hg];rfl);rw[hg,hW]at HC;clear hg;go_enter Tryz.func76,Tryz.ntmps76
  go_wp2_with fail;refine HC.o.mono ?_;rw[<-hW];rintro e w1 ⟨rfl,wO⟩;go_wp2_with fail;go_ret;exact⟨ag HG.o.symm,wM.o.trans wO⟩
 ·obtain⟨q,hq,h1,h5,hlen,_,AD⟩:=aW hg;have u:=ae hg;rw[hg,hW]at HC;clear hg;by_cases Rn:p<2
  ·have HG:=ae (show dE p V L=false by unfold dE;rw[u.o,decide_eq_false (by omega:¬2<=p)];rfl);clear hq hlen AD;go_enter Tryz.func76,Tryz.ntmps76
   go_wp2_with fail;refine HC.o.mono ?_;rw[<-hW];rintro e w1 ⟨rfl,wO⟩;have y5:=wO.k6 O.o;go_wp2_with fail;go_ret;exact⟨ag HG.o.symm,wM.o.trans wO⟩
  ·have EF:4<=n:=by have:=I9 (n:=q) b9 h5;rw[<-yD.o,hlen];exact this
   have CH:n<=32:=by have:=cu q h5;rw[<-yD.o,hlen];exact this.2
   clear hq hlen AD;go_enter Tryz.func76,Tryz.ntmps76
   go_wp2_with fail;refine HC.o.mono ?_;rw[<-hW];rintro e w1 ⟨rfl,wO⟩;have xz:=ae wO;have y5:=wO.k6 O.o;clear wO;have HW:=ae hW;clear hW;go_wp2_with fail;clear y5
   go_loopg [5] fn (fun gk ii wr=>∃k:Nat,b7 (gk+k=fn)/\ii=.int .i64 (k:Int)/\b7 (CC L ((n:Int)-2) k=true)/\b7 (Ext W wr))
   case atStart=>exact⟨0,ae b9,rfl,ae rfl,xz⟩
   case round =>
    obtain⟨g1,r7⟩:=b8 gk;subst r7;obtain⟨K,o6⟩:=b8 wr;subst o6;obtain⟨k,R,rfl,HO,HX⟩:=hrel;have hcv:K.cell? ⟨w.heap.size,1,none⟩=some (.slice a n cap):=HX.o.k6 Kl.o;by_cases hlt:k<fn
    ·have G:=ae (HF.o.ext HX.o);obtain⟨b,off,c,x,y,rfl,I,IY,MM,ML⟩:=G.o.at hlt;have GX:IntKind.i64.wrap ((n:Int)-2)=(n:Int)-2:=by rw[IntKind.wrap_i64];omega
     cases hb:wJ c 1 ((n:Int)-2)
     ·have HG:=ae (show dE p V L=false by
       unfold dE;rw[Z.o,yD.o,ij (k:=k) (m:=fn) (by rw[I];simp only;rw[hb];rfl) hlt];simp)
      clear I
      go_wp2
      go_quiet ((first|(go_at_call 74;exact bY (bG _ _ _ _))))
      go_wp2
      go_ret;exact⟨ag HG.o.symm,wM.o.trans (HX.o.trans (yd.ext ⟨_,rfl⟩))⟩
     ·cases hh:yw (L.take k) c
      ·have HN:=ae (show CC L ((n:Int)-2) (k+1)=true by rw[pe,HO.o,I];simp only;rw[hb,hh];rfl);clear I
       go_wp2
       go_quiet ((first|(go_at_call 74;exact bY (bG _ _ _ _))|(go_at_call 85;exact bY (lZ ((G.o.drewN _).take b9) _))))
       go_wp2
       go_roundg (g1-1)
       case measure=>have:=R.o;omega
       case rel=>exact⟨k+1,ae (j4 R.o),by go_num,HN,ae (HX.o.trans (yd.ext ⟨_,rfl⟩))⟩
      ·have HG:=ae (show dE p V L=false by
        unfold dE;rw[Z.o,yD.o,ij (k:=k) (m:=fn) (by rw[I];simp only;rw[hh];simp) hlt];simp)
       clear I
       go_wp2
       go_quiet ((first|(go_at_call 74;exact bY (bG _ _ _ _))|(go_at_call 85;exact bY (lZ ((G.o.drewN _).take b9) _))))
       go_wp2
       go_ret;exact⟨ag HG.o.symm,wM.o.trans (HX.o.trans (yd.ext ⟨_,rfl⟩))⟩
    ·have Vb:k=fn:=by have:=R.o;omega
     subst Vb;have hcw:K.cell? ⟨w.heap.size,0,none⟩=some (.int .i64 p):=HX.o.k6 O.o;have U:=ae (kw (w:=K) p a n cap b9 (HF.o.ext HX.o))
     have HG:=ae (show dE p V L=decide (0<(bd L (n-2)).length)by
      unfold dE;rw[u.o,Z.o,yD.o,HO.o,decide_eq_true (show 2<=p by omega)];simp)
     go_wp2_with fail;refine U.o.mono ?_;rintro e w2 ⟨⟨v,rfl,ho⟩,xg⟩;obtain⟨af,m,cf,rfl,hm⟩:=ho.var;have HM:=ae hm.out;clear ho hm;have Tf:decide ((m:Int) > 0)=decide (0<(bd L (n-2)).length):=by rw[HM.o];rw[Bool.eq_iff_iff];simp
     clear Tf;go_wp2_with fail;go_ret;exact⟨ag (by rw[HG.o,HM.o]),wM.o.trans (HX.o.trans xg)⟩
def Gj(q k:Nat)(c:IF):Bool:=if k<q then xt c.1 (k:Int) else c.2.2.1
def AH(q8:List IF)(q k:Nat):j9:=q8.map fun c=>c.2.1*wL (Gj q k c)
def stA(q:Nat)(V:j9)(L:j5):j7:=(List.range (q+1)).map (AH (bZ V L) q)
def CW(q:Nat):j9:=(List.range (q+1)).map fun k=>wL (decide (k=q))
def Bs(V:j9)(L:j5):j6:=(bZ V L).map fun c=>c.2.2.2
def xH(p:Int)(V:j9)(L:j5):Bool:=dE p V L&&yz (Bs V L)
def EM(p:Int)(V:j9)(L:j5):j7:=if xH p V L=true then stA p.toNat V L else []
def EL(p:Int)(V:j9)(L:j5):j9:=if xH p V L=true then CW p.toNat else []
def EK(p:Int)(V:j9)(L:j5):j6:=if xH p V L=true then Bs V L else []
def mo(w:World)(base:Nat)(e:Ending)(A:j7)(B:j9)(C:j6)(ok:Bool):Prop :=
 ∃va vb vc vs,e=.returned (.tuple #[.agg #[va,vb,vc],.bool ok])/\xe w base va vs/\bC w base vs A/\o8 w base vb B/\l8 w base vc C/\Cm vs vb
theorem qd(hn:V.length=n)(h1:1<=n)(G:∀f∈L,1<=f.1/\f.1+2<=n):∀c∈bZ V L,(c.2.1=1∨c.2.1=-1)/\0<=c.1/\c.1<=n:=by
 intro c hc;unfold bZ at hc;simp only[List.mem_append]at hc
 rcases hc with(hc|hc)|hc
 ·obtain⟨s,hs,rfl⟩:=List.mem_map.1 hc;have:=iU hs;exact⟨.inl rfl,by simp only;omega,by simp only;omega⟩
 ·obtain⟨f,hf,h2⟩:=List.mem_flatMap.1 hc;have:=G f hf;simp only[y6,List.mem_cons,List.not_mem_nil,or_false]at h2
  rcases h2 with rfl|rfl
  ·exact⟨.inl rfl,by simp only;omega,by simp only;omega⟩
  ·exact⟨.inr rfl,by simp only;omega,by simp only;omega⟩
 ·simp only[y6,List.mem_cons,List.not_mem_nil,or_false]at hc
  rcases hc with rfl|rfl
  ·exact⟨.inl rfl,by simp only;omega,by simp only;omega⟩
  ·exact⟨.inr rfl,by simp only;omega,by simp only;omega⟩
theorem uQ(V:j9)(L:j5):(bZ V L).length<=V.length+2*L.length+2:=by
 unfold bZ;have:=ew L (V.length-2);rw[List.length_append,List.length_append,ch,eR];simp only[y6,List.length_cons,List.length_nil];omega
theorem Pm{q:Nat}{b:Bool}(h:b=decide (k=q)):((k:Int) == (q:Int))=b:=by
 subst h;by_cases e:k=q
 ·subst e;simp
 ·rw[decide_eq_false e];simp;omega
theorem kd{α β:Type}(f:α->β){l:List α}{x:α}(h:l[k]?=some x):(l.take k).map f++[f x]=(l.take (k+1)).map f:=by rw[il h];simp
theorem wm{p:Int}{cap:Nat}(hV:Ints w a n cap V)(h:zk w fa fn A1 L)(hfn:fn<=1048576):
 Calls Tryz.prog 34 #[pair p a n cap,.slice fa fn A1] w fun e w' =>
  mo w' w.heap.size e (EM p V L) (EL p V L) (EK p V L) (xH p V L)/\Ext w w':=by
 obtain⟨W,hW⟩:=b8 ((w.alloc (.cells #[.int .i64 p,.slice a n cap] 26)).alloc (.cells #[.slice none 0 0,.slice none 0 0,.slice none 0 0] 52));have yI:=ae (show W.heap.size=w.heap.size+2 by rw[hW];simp);have wM:=ae (show Ext w W by rw[hW];exact(Ext.alloc _ _).trans (Ext.alloc _ _));have Kl:=ae (show W.cell? ⟨w.heap.size,1,none⟩=some (.slice a n cap)by rw[hW];simp);have Jd:=ae (show W.cell? ⟨w.heap.size,0,none⟩=some (.int .i64 p)by rw[hW];simp);have Uk:=ae (show W.heap[w.heap.size+1]?=some (.cells #[.slice none 0 0,.slice none 0 0,.slice none 0 0] 52 (0,0))by rw[hW];exact ak _ _ _ e7);have yD:=ae hV.hlen;have Mc:=hV.o3;have Mb:=hV.l9;have MK:=h.o3;have MJ:=h.l9;have EJ:=ae h.hlen;have HF:=ae (h.ext wM.o);have Dw:=ae (hV.ext wM.o);have HC:=ae (wq (p:=p) (hV.ext wM.o) (h.ext wM.o) hfn);clear h hV;cases hg:dE p V L
 ·have HG:=ae (show xH p V L=false by unfold xH;rw[hg];rfl);rw[hg,hW]at HC;clear hg;go_enter Tryz.func34,Tryz.ntmps34
  go_wp2_with fail;refine HC.o.mono ?_;rw[<-hW];rintro e w1 ⟨rfl,wO⟩;have yN:w1.cell? ⟨w.heap.size+1,0,none⟩=some (.slice none 0 0):=by rw[cell_of_row w1 _ 0 _ _ _ ((wO.block _ (by rw[yI.o];omega)).trans Uk.o)];rfl
  have yC:w1.cell? ⟨w.heap.size+1,1,none⟩=some (.slice none 0 0):=by rw[cell_of_row w1 _ 1 _ _ _ ((wO.block _ (by rw[yI.o];omega)).trans Uk.o)];rfl
  have AX:w1.cell? ⟨w.heap.size+1,2,none⟩=some (.slice none 0 0):=by rw[cell_of_row w1 _ 2 _ _ _ ((wO.block _ (by rw[yI.o];omega)).trans Uk.o)];rfl
  have CZ:∀j,w1.frozen? ⟨w.heap.size+1,j,none⟩=false:=fun j=>frozen_of_row w1 _ j _ _ ((wO.block _ (by rw[yI.o];omega)).trans Uk.o)
  have xz:=ae (wM.o.trans wO);have hsz1:=wO.size;rw[yI.o]at hsz1;clear wO;go_wp2_with fail;refine bodyPost_ret (v:=.tuple #[.agg #[.slice none 0 0,.slice none 0 0,.slice none 0 0],.bool false]) (by simp[results,Tryz.results34,go_sem,yN,yC,AX]) rfl ⟨⟨_,_,_,[],by rw[HG.o],xe.nil _ _,?_,?_,?_,Cm.nil _⟩,?_⟩
  ·unfold EM;rw[HG.o,if_neg e7];exact bC.nil _ _
  ·unfold EL;rw[HG.o,if_neg e7];exact o8.nil _ _
  ·unfold EK;rw[HG.o,if_neg e7];exact l8.nil _ _
  ·exact((xz.o.setCell e7 _).setCell e7 _).setCell e7 _
 ·have hgo:aZ p V=true/\2<=p/\CC L ((V.length:Int)-2) L.length=true:=by
   unfold dE at hg;simp only[Bool.and_eq_true,decide_eq_true_eq]at hg;exact⟨hg.1,hg.2.1,hg.2.2.1⟩
  obtain⟨q,rfl,h1,h5,hlen,_,AD⟩:=aW hgo.1;have h2q:2<=q:=by omega
  have EF:4<=n:=by have:=I9 h2q h5;rw[<-yD.o,hlen];exact this
  have CH:n<=32:=by have:=cu q h5;rw[<-yD.o,hlen];exact this.2
  have Vj:∀f∈L,1<=f.1/\f.1+2<=n:=fun f hf=>by have:=Lx hgo.2.2 f hf;have:=yD.o;omega
  have Cq:=ae (fun(w1:World) (hx:Ext W w1)=>ry (w:=w1) (q:Int) (Dw.o.ext hx) AD b9 b9 (HF.o.ext hx) Vj hfn);have YQ:=ae (show xH (q:Int) V L=yz (Bs V L)by unfold xH;rw[hg];rfl);obtain⟨q8,zm⟩:=b8 (bZ V L);have Cr:=ae (qd yD.o b9 Vj);have QT:=ae (uQ V L);rw[<-zm]at Cq Cr QT;have Sf:=ae zm;rw[hg,hW]at HC;clear hg hgo hlen AD Vj zm;go_enter Tryz.func34,Tryz.ntmps34
  go_wp2_with fail;refine HC.o.mono ?_;rw[<-hW];clear hW;rintro e w1 ⟨rfl,wO⟩;have xz:=ae wO;have y5:=wO.k6 Jd.o;have yq:=wO.k6 Kl.o;clear wO HC;go_wp2_with fail;clear y5 yq;refine(Cq.o w1 xz.o).mono ?_;rintro e w2 ⟨⟨vcs,rfl,WS⟩,xg⟩;obtain⟨ac,m,cc,rfl,hm⟩:=WS.var;have HM:=ae hm.out;have xZ:=ae (xz.o.trans xg);have Dc:=xZ.o.size;rw[yI.o]at Dc;have DN:=ae ((WS.mono (base':=w.heap.size+2) (by have:=xz.o.size;rw[yI.o]at this;omega)).ext (Ext.alloc w2 (.cells #[.slice none 0 0,.slice none 0 0,.slice none 0 0] 52)));have XJ:=WS.KR.o3;have XH:=WS.KR.l9;have ZJ:m<=3000000:=by have h1:=QT.o;have h2:=HM.o;have h3:=yD.o;have h4:=EJ.o;omega
  have ON:=ae (xE.new (w:=w2) (base:=w.heap.size+2) Dc);clear WS hm xg Cq;go_wp2_with fail
  go_loopg [8] (q+1) (fun gk ii wr=>∃(k:Nat) (va vb:Value) (vs:List Value),b7 (gk+k=q+1)/\ii=.int .i64 (k:Int)/\b7 (xE wr (w.heap.size+2) w2.heap.size va vb (.slice none 0 0) vs ((List.range k).map (AH q8 q)) ((List.range k).map fun k=>wL (decide (k=q))) [])/\b7 (xm Ek 103 wr (w.heap.size+2) (.slice ac m cc) q8)/\b7 (Ext W wr))
  case atStart=>exact⟨0,_,_,_,ae b9,rfl,ON,DN,ae (xZ.o.trans (Ext.alloc _ _))⟩
  case round =>
   obtain⟨g1,r7⟩:=b8 gk;subst r7;obtain⟨O,o6⟩:=b8 wr;subst o6;obtain⟨k,va,vb,vs,HK,rfl,AQ,z7,HX⟩:=hrel;have Db:=HX.o.size;rw[yI.o]at Db;have P9:O.cell? ⟨w.heap.size,0,none⟩=some (.int .i64 (q:Int)):=HX.o.k6 Jd.o;obtain⟨aA,nA,cA,rfl,JP⟩:=AQ.o.a.var;obtain⟨aB,nB,cB,rfl,Kq⟩:=AQ.o.b.var;by_cases PU:k<=q
   ·have HR0:=ae (o8.yG O O.heap.size _ rfl (Nat.le_refl _));go_wp2_with fail
    go_loopg [9,10] m (fun gk row jj wr=>∃(j:Nat) (a1:j8) (n1 p1:Nat),b7 (gk+j=m)/\jj=.int .i64 (j:Int)/\row=.slice a1 n1 p1/\b7 (o8 wr O.heap.size (.slice a1 n1 p1) (AH (q8.take j) q k))/\b7 (Ext O wr))
    case atStart=>exact⟨0,_,_,_,ae b9,rfl,rfl,HR0,ae (Ext.alloc _ _)⟩
    case round =>
     obtain⟨g2,xK⟩:=b8 gk;subst xK;obtain⟨U,wT⟩:=b8 wr;subst wT;obtain⟨j,a1,n1,p1,HJ,rfl,rfl,Fs,G⟩:=hrel;have D3:=G.o.size;have Xz:=G.o.k6 P9;by_cases DE:j<m
     ·obtain⟨cb,u,⟨c0,K,fr,cx,cy⟩,RC,RA,hcc⟩:=(z7.o.ext G.o).KR.at DE;subst RC;have k0:U.cell? ⟨cb,u+j*5,none⟩=some (.int .i64 c0):=hcc 0 _ rfl;have k1:U.cell? ⟨cb,u+j*5+1,none⟩=some (.int .i64 K):=hcc 1 _ rfl;have k2:U.cell? ⟨cb,u+j*5+2,none⟩=some (.bool fr):=hcc 2 _ rfl;have Eb:=Cr.o (c0,K,fr,cx,cy) (List.mem_of_getElem? RA);simp only at Eb;obtain⟨Cf,hc00,hc0n⟩:=Eb;have CA:=ae Cf;obtain⟨on,hon⟩:=b8 (Gj q k (c0,K,fr,cx,cy));have YM:=ae hon;have AU:=ae (show AH (q8.take j) q k++[K*wL on]=AH (q8.take (j+1)) q k by rw[hon];exact kd _ RA);have zT:=ae (show(AH (q8.take j) q k).length<=3000000 by unfold AH;rw[List.length_map,List.length_take];have:=HM.o;omega);have Fu:=ae (show some cb≠(Value.slice a1 n1 p1).ownBlock from fun e=>aY (e:=3) (e':=103) (by decide) Fs.o (z7.o.ext G.o) cb e.symm rfl);clear hcc RA hon Cf
      go_upto_if 43 with fail
      go_cut [11] (fun bb wx=>bb=.bool on/\b7 (Ext U wx))
      case first =>
       by_cases hlt:k<q
       ·have J5:xt c0 (k:Int)=on:=by rw[YM.o];unfold Gj;rw[if_pos hlt]
        go_wp2_with (first|(go_at_call 78;refine(ee _ _ _ b9).mono ?_;rw[J5];rintro e w' ⟨rfl,rfl⟩));go_meet;exact⟨rfl,ae (Ext.refl _)⟩
       ·have CL:fr=on:=by rw[YM.o];unfold Gj;rw[if_neg hlt]
        subst CL;go_wp2_with fail;go_meet;exact⟨rfl,ae (Ext.refl _)⟩
      obtain⟨rfl,Fp⟩:=hcut;replace k1:=Fp.o.k6 k1;have k7:Ext O wc.drew:=(G.o.trans Fp.o).trans (Ext.drew _);have hmul:IntKind.i64.wrap (K*wL on)=K*wL on:=by
       rw[IntKind.wrap_i64];have h1:=CA.o;cases on<;>rcases h1 with rfl|rfl<;>decide
      have k8:=ae (fun(w':World) (h:Ext O w') (h1:w'.cell? ⟨cb,u+j*5+1,none⟩=some (.int .i64 K))=>(⟨h1,h⟩:w'.cell? ⟨cb,u+j*5+1,none⟩=some (.int .i64 K)/\Ext O w'));have YB:=ae (Fs.o.ext Fp.o);have BH:Ext wc wc.drew:=Ext.drew wc;have PW:Ext wc (wc.alloc (.cells #[.int .i64 (K*wL on)] 3)).drew:=(Ext.alloc _ _).trans (Ext.drew _);have Ja:=ae (G.o.trans Fp.o);have EO:=Ja.o.size;have UF:=ae k1;clear k0 k2 k7;go_wp2_with fail
      go_region_held3 (fun w'=>w'.cell? ⟨cb,u+j*5+1,none⟩=some (.int .i64 K)/\Ext O w')
       (first
         | with_reducible exact k8.o _ (Ja.o.trans BH) (BH.k6 UF.o)
         | with_reducible exact k8.o _ (Ja.o.trans PW) (PW.k6 UF.o)
         | with_reducible exact k8.o _ EG XL)
       (first
         | (go_at_call 79
            (with_reducible refine(fR _ _).mono ?_)
            rintro e w4 ⟨rfl,rfl⟩)
         | (refine ci _ j0 ?_
            refine co _ _ j0 O.heap.size (.slice a1 n1 p1) _ j0 (YB.o.ext PW) _ 1 _ [K*wL on] j0 ((Ints.Ad wc _ _ _ rfl).ext (Ext.drew _)) (j4 zT.o) (by simp;omega) ?_;intro v5 w5 ho hg l7;have XL:=hg.cell (PW.k6 UF.o) Fu.o;obtain⟨a5,n5,p5,rfl,A9⟩:=ho.var;have xL:=ae ho;have EG:=al (w0:=O) (Ja.o.trans PW) hg (fun j hj=>(YB.o.lt j hj).1)
            clear ho hg l7)
         | fail)
      have X5:=ae EG;clear EG XL PW;clear BH;go_wp2_with fail
      go_roundg (g2-1)
      case measure=>have:=HJ.o;omega
      case rel=>exact⟨j+1,a5,n5,p5,ae (j4 HJ.o),by go_num,rfl,ae (by rw[<-AU.o];exact xL.o),X5⟩
     ·have D9:j=m:=by have:=HJ.o;omega
      subst D9;have HT:=ae (show q8.take j=q8 from List.take_of_length_le (by rw[HM.o];exact Nat.le_refl _));rw[HT.o]at Fs;have Ap:=ae (AQ.o.ext G.o);have AR:=Ap.o.c0;have Fv:=ae (show vs.length<=6 by rw[AQ.o.rows.len,List.length_map,List.length_range];omega);have JN:=ae (z7.o.ext G.o);have XR:=ae (HX.o.trans G.o)
      go_wp2_with (first
       | (at_builtin;refine eL rfl _ _ rfl (w.heap.size+2) (.slice aA nA cA) vs rfl (Ap.o.a.ext (Ext.alloc _ _)) _ _ 1 rfl (by simp;rfl) rfl (j4 Fv.o) (by simp;omega) ?_;intro v6 w6 ho hg l7;have Ku:=ae (AQ.o.DW (G.o.trans (Ext.alloc _ _)) (Fs.o.ext (Ext.alloc _ _)) b9 hg ho l7);have I2:=Ap.o.Ip (Ext.alloc _ _) hg;have ZT:=xE.A3 I2;have hf6:=xE.B4 I2 0;have YR:=ae ((JN.o.AM (Ext.alloc _ _) Ap.o.a (by decide) hg).KZ I2 (by decide) 0 v6);have X6:=ae (((XR.o.trans (Ext.alloc _ _)).grown hg (fun j hj=>by rw[yI.o];exact(AQ.o.a.lt j hj).1)).store (b:=w2.heap.size) 0 (by rw[yI.o];exact Dc) v6);obtain⟨a6,n6,p6,rfl,Jg⟩:=ho.var;clear ho hg l7 I2))
      have hcp7:=Ext.k6 X6.o Jd.o;have hb7:=Ku.o.c1;clear ZT hf6 AR Xz;obtain⟨w7,CX⟩:=b8 (w6.setCell ⟨w2.heap.size,0,none⟩ (.slice a6 n6 p6));have HOK7:=ae (show xm Ek 103 w7 (w.heap.size+2) (.slice ac j cc) q8 by rw[CX];exact YR.o);rw[<-CX]at Ku X6 hcp7 hb7;rw[<-CX];clear YR CX;have hglt:=Ku.o.lt;have Wu:=X6.o.size;rw[yI.o]at Wu;obtain⟨bq,hbq⟩:=b8 (decide (k=q));have Qe:((k:Int) == (q:Int))=bq:=Pm hbq;have HBQ:=ae hbq;have OV:=ae (show((List.range k).map fun k=>wL (decide (k=q))).length<=6 by simp;omega);clear hbq
      go_region_law (first
       | (refine ci _ rfl (co _ _ rfl (w.heap.size+2) (.slice aB nB cB) _ rfl ((Ku.o.b.ext (Ext.alloc _ _)).ext (Ext.drew _)) _ 1 _ [wL bq] rfl ((Ints.Ad _ _ _ _ rfl).ext (Ext.drew _)) (j4 OV.o) (by simp;omega) ?_);intro v8 w8 ho hg l7;have XA:=(Ext.alloc w7 (.cells #[.int .i64 (wL bq)] 3)).trans (Ext.drew _);have Hf:=ae (Ku.o.pushB XA hg ho l7);have CN:=Ku.o.Io XA hg;have hc8:=xE.A2 CN;have hf8:=xE.B4 CN 1;have Ux:=ae ((HOK7.o.M0 XA Ku.o.b (by decide) hg).KZ CN (by decide) 1 v8);have X8:=ae (((X6.o.trans XA).grown hg (fun j hj=>by rw[yI.o];exact(Ku.o.b.lt j hj).1)).store (b:=w2.heap.size) 1 (by rw[yI.o];exact Dc) v8);obtain⟨a8,n8,p8,rfl,FT⟩:=ho.var;clear ho hg l7 CN)
       | (go_simp;go_at_call 79;refine(fR _ _).mono ?_;rintro e w' ⟨rfl,rfl⟩))
      all_goals
       go_wp2
       go_roundg (g1-1)
       case measure=>have:=HK.o;omega
       case rel=>exact⟨k+1,_,_,_,ae (j4 HK.o),by go_num,ae (by rw[List.range_succ,List.map_append,List.map_append];have:=Hf.o;rw[HBQ.o]at this;exact this),Ux,X8⟩
   ·have hkq':k=q+1:=by have:=HK.o;omega
    have hnkq:¬((k:Int)<=(q:Int)):=by omega
    subst hkq';obtain⟨AA,hAA⟩:=b8 ((List.range (q+1)).map (AH q8 q));obtain⟨BB,r9⟩:=b8 ((List.range (q+1)).map fun k=>wL (decide (k=q)))
    rw[<-hAA,<-r9]at AQ;have UR:=ae (show AA=stA q V L by rw[hAA,Sf.o];rfl);have AF:=ae (show BB=CW q from r9);clear hAA r9;go_wp2_with fail
    go_loopg [12] m (fun gk jj wr=>∃(j:Nat) (vc:Value),b7 (gk+j=m)/\jj=.int .i64 (j:Int)/\b7 (xE wr (w.heap.size+2) w2.heap.size (.slice aA nA cA) (.slice aB nB cB) vc vs AA BB ((q8.take j).map fun c=>c.2.2.2))/\b7 (xm Ek 103 wr (w.heap.size+2) (.slice ac m cc) q8)/\b7 (Ext W wr))
    case atStart=>exact⟨0,_,ae b9,rfl,AQ,z7,HX⟩
    case round =>
     obtain⟨g3,Dg⟩:=b8 gk;subst Dg;obtain⟨R,A0⟩:=b8 wr;subst A0;obtain⟨j,vc,HJ,rfl,J,xp,G⟩:=hrel;have D3:=G.o.size;rw[yI.o]at D3;have hglt:=J.o.lt;have zx:=J.o.c2;obtain⟨aC,nC,cC,rfl,Gd⟩:=J.o.c.var;by_cases DE:j<m
     ·obtain⟨cb,u,⟨c0,K,fr,cx,cy⟩,RC,RA,hcc⟩:=xp.o.KR.at DE;subst RC;have k3:R.cell? ⟨cb,u+j*5+3,none⟩=some (.int .i64 cx):=hcc 3 _ rfl;have k4:R.cell? ⟨cb,u+j*5+4,none⟩=some (.int .i64 cy):=hcc 4 _ rfl;have EP:cb<R.heap.size:=World.block_lt_of_cell? _ _ k3;have AU:=ae (show((q8.take j).map fun c=>c.2.2.2)++[(cx,cy)]=(q8.take (j+1)).map fun c=>c.2.2.2 from kd (fun c:IF=>c.2.2.2) RA);have zT:=ae (show((q8.take j).map fun c=>c.2.2.2).length<=3000000 by rw[List.length_map,List.length_take];have:=HM.o;omega);clear hcc RA;go_wp2_with fail
      go_region_law (first
       | (refine ci _ rfl (ek _ _ rfl (w.heap.size+2) (.slice aC nC cC) _ rfl ((J.o.c.ext (Ext.alloc _ _)).ext (Ext.drew _)) _ 1 _ [(cx,cy)] rfl ((r8.one' _ _ _ _ _ rfl).ext (Ext.drew _)) (j4 zT.o) (by simp;omega) ?_);intro v8 w8 ho hg l7;have XA:=(Ext.alloc R (.cells #[.int .i64 cx,.int .i64 cy] 46)).trans (Ext.drew _);have Hf:=ae (J.o.VU XA hg ho);have CN:=J.o.boxC XA hg;have hc8:=xE.BI CN;have hf8:=xE.B4 CN 2;have Ux:=ae ((xp.o.MZ XA J.o.c (by decide) hg).KZ CN (by decide) 2 v8);have X8:=ae (((G.o.trans XA).grown hg (fun j hj=>by rw[yI.o];exact(J.o.c.lt j hj).1)).store (b:=w2.heap.size) 2 (by rw[yI.o];exact Dc) v8);obtain⟨a8,n8,p8,rfl,FT⟩:=ho.var;clear ho hg l7 CN))
      all_goals
       go_wp2
       go_roundg (g3-1)
       case measure=>have:=HJ.o;omega
       case rel=>exact⟨j+1,_,ae (j4 HJ.o),by go_num,ae (by rw[<-AU.o];exact Hf.o),Ux,X8⟩
     ·have D9:j=m:=by have:=HJ.o;omega
      subst D9
      have HT:=ae (show(q8.take j).map (fun c=>c.2.2.2)=Bs V L by
       rw[List.take_of_length_le (by rw[HM.o];exact Nat.le_refl _),Sf.o];rfl)
      rw[HT.o]at J;have Fw:=ae (ik J.o.c.wK);have UI:=ae (J.o);have PM:(w.heap.size+1)<W.heap.size:=by rw[yI.o];omega
      have xU:=ae (fun(w':World) (hx:Ext W w')=>(hx.block _ PM).trans Uk.o);clear zx;cases Ef:yz (Bs V L)
      ·have DO:=ae (show xH (q:Int) V L=false by rw[YQ.o,Ef]);rw[Ef]at Fw;clear Ef;have zx:=J.o.c2;go_wp2_with fail;refine Fw.o.mono ?_;rintro e w4 ⟨rfl,I⟩;have yN:=xE.A3 (xU.o w4 (G.o.trans I));have yC:=xE.A2 (xU.o w4 (G.o.trans I));have AX:=xE.BI (xU.o w4 (G.o.trans I));have CZ:=xE.B4 (xU.o w4 (G.o.trans I));have XF:=ae (wM.o.trans (G.o.trans I));clear I;go_wp2_with fail;refine bodyPost_ret (v:=.tuple #[.agg #[.slice none 0 0,.slice none 0 0,.slice none 0 0],.bool false]) (by simp[results,Tryz.results34,go_sem,yN,yC,AX]) rfl ⟨⟨_,_,_,[],by rw[DO.o],xe.nil _ _,?_,?_,?_,Cm.nil _⟩,?_⟩
       ·unfold EM;rw[DO.o,if_neg e7];exact bC.nil _ _
       ·unfold EL;rw[DO.o,if_neg e7];exact o8.nil _ _
       ·unfold EK;rw[DO.o,if_neg e7];exact l8.nil _ _
       ·exact((XF.o.store 0 b9 _).store 1 b9 _).store 2 b9 _
      ·have Is:=ae (show xH (q:Int) V L=true by rw[YQ.o,Ef]);rw[Ef]at Fw;clear Ef;have zx:=J.o.c2;go_wp2_with fail;refine Fw.o.mono ?_;rintro e w4 ⟨rfl,I⟩;have yN:=xE.A3 (xU.o w4 (G.o.trans I));have yC:=xE.A2 (xU.o w4 (G.o.trans I));have AX:=xE.BI (xU.o w4 (G.o.trans I));have CZ:=xE.B4 (xU.o w4 (G.o.trans I));have Z:=ae (J.o.ext I);have I1:=Z.o.c0;have FI:=Z.o.c1;have P8:=Z.o.c2;have hgl4:=Z.o.lt;have XF:=ae (wM.o.trans (G.o.trans I));clear I zx;go_wp2_with fail;refine bodyPost_ret (v:=.tuple #[.agg #[.slice aA nA cA,.slice aB nB cB,.slice aC nC cC],.bool true]) (by simp[results,Tryz.results34,go_sem,yN,yC,AX]) rfl ⟨⟨_,_,_,vs,by rw[Is.o],?_,?_,?_,?_,Z.o.off⟩,?_⟩
       ·exact(((((xe.on Z.o.a).set e7 _).set e7 _).set e7 _).here).mono' b9
       ·unfold EM;rw[Is.o,if_pos rfl,Int.toNat_natCast,<-UR.o];exact(((((bC.on Z.o.rows).set e7 _).set e7 _).set e7 _).here).mono' b9
       ·unfold EL;rw[Is.o,if_pos rfl,Int.toNat_natCast,<-AF.o];exact(((((o8.on Z.o.b).set e7 _).set e7 _).set e7 _).here).mono b9
       ·unfold EK;rw[Is.o,if_pos rfl];exact(((((l8.on Z.o.c).set e7 _).set e7 _).set e7 _).here).mono b9
       ·exact((XF.o.store 0 b9 _).store 1 b9 _).store 2 b9 _
end Go.Proofs.YtalmoolkhcgmmaaGreat
