import Derived.Test.YtdadoignenffgaaGreatDoorSvAllG30
import Derived.Test.YtdadoignenffgaaGreatDoorSvAllG6
import Derived.Test.YtdadoignenffgaaGreatDoorSvAllG12
import Derived.Test.YtdadoignenffgaaGreatDoorSvAllG13
import Derived.Test.YtdadoignenffgaaGreatDoorSvAllG16
import Derived.Test.YtdadoignenffgaaGreatDoorSvAllG3
import Derived.Test.YtdadoignenffgaaGreatDoorSvAllG5
import Derived.StillTailTactics
import Derived.Test.YtdadoignenffgaaGreatDoorSvAllG9
import Derived.Deep.RegionLaw
import Derived.Laws.EntriesVeiled
set_option linter.unusedVariables false
set_option linter.unusedSimpArgs false
namespace Go.Proofs.YtdadoignenffgaaGreatDoor
variable{n k fn zw:Nat}{L:j2}{w:World}{a fa:j6}{V:j7}
set_option maxHeartbeats 16000000
set_option maxRecDepth 100000
open Go.RowKit
theorem lU{n d:Int}(h:(az n d).2=false):(az n d).1=(0,0):=by
 have hc:∀p,(xI p).2=false->(xI p).1=(0,0):=fun p h=>by unfold xI at h⊢;split at h<;>simp_all
 unfold az at h⊢
 split at h
 ·next h1=>rw[if_pos h1]
 ·next h1 =>
  rw[if_neg h1]
  split at h
  ·next h2=>rw[if_pos h2];exact hc _ h
  ·next h2=>rw[if_neg h2];exact hc _ h
theorem ut(n d:Int):-1000000000<=(az n d).1.1/\(az n d).1.1<=1000000000:=by
 cases h:(az n d).2
 ·rw[lU h];simp
 ·have:=aL (ip h);omega
theorem ql(a b:j8):-1000000000<=(vD a b).1.1/\(vD a b).1.1<=1000000000:=by
 unfold vD;split
 ·exact ut _ _
 ·simp
abbrev Ii:=Int×Int×Bool×Int×Int
def CG:Enc Ii:=⟨fun x=>[.int .i64 x.1,.int .i64 x.2.1,.bool x.2.2.1,.int .i64 x.2.2.2.1,.int .i64 x.2.2.2.2],5,fun _=>rfl,by omega,fun x u h=>by simp only[List.mem_cons,List.not_mem_nil,or_false]at h;rcases h with rfl|rfl|rfl|rfl|rfl<;>rfl⟩
theorem Tryz.Gv:(Tryz.prog.info? 125).map (fun i=>(i.zero,i.size,i.bytes))=some (some (.agg #[.int .i64 0,.int .i64 0,.bool false,.int .i64 0,.int .i64 0]),5,40):=by kernel_rfl
def eZ(V:j7)(f:Int×Int×Int):j8:=(vD f.2 (V[f.1.toNat]?.getD 0,1)).1
def yp(s:Int)(c:j8):List Ii:=[(s,1,false,c.1,c.2),(s,-1,false,-c.1,c.2)]
def bd(V:j7)(l:j7):List Ii:=l.map fun s=>(s,1,true,-(V[s.toNat]?.getD 0),1)
def aK(V:j7)(L:j2):List Ii:=L.flatMap fun f=>yp f.1 (eZ V f)
def cK(V:j7)(L:j2):List Ii:=bd V (aN L (V.length-2))++aK V L++yp ((V.length:Int)-1) (-(V[V.length-1]?.getD 0),1)
def eL(V:j7)(L:j2)(k:Nat):List Ii:=bd V (aN L (V.length-2))++aK V (L.take k)
theorem ke(V:j7){l:j7}(h:k<l.length):bd V (l.take k)++[(l[k]?.getD 0,1,true,-(V[(l[k]?.getD 0).toNat]?.getD 0),1)]=bd V (l.take (k+1)):=by
 rw[cH h];simp[bd]
theorem cZ(V:j7)(l:j7):(bd V l).length=l.length:=by simp[bd]
theorem eo(V:j7):∀L:j2,(aK V L).length=2*L.length
 | []=>rfl
 | f::L=>by
   have:=eo V L;simp only[aK,List.flatMap_cons,List.length_append,yp,List.length_cons,List.length_nil]at this⊢;omega
theorem rV(V:j7)(h:k<L.length){f:Int×Int×Int}(e:L[k]?.getD (0,0,0)=f):eL V L k++yp f.1 (eZ V f)=eL V L (k+1):=by
 subst e;unfold eL aK;rw[gw h];simp
theorem o5.QD{w':World}{base base':Nat}{v G:Value}{l:j7}{α:Type}{E:Enc α}{t:TypeId}{I:List α}(h:o5 w base v l)(h':uT E t w base' G I)(hne:3≠t)(hg:w.grownBy w' G.ownBlock):o5 w' base v l :=
 h.keep fun k hk=>hg.block k (h.lt k hk).2 fun e=>aU hne h h' k hk e.symm
theorem pT(x:Int){cap:Nat}(hV:Ints w a n cap V)(LM:∀y∈V,-500<=y/\y<=500)(h2:2<=n)(hn:n<=1000)(h:xV w fa fn zw L)(hL:∀f∈L,1<=f.1/\f.1+2<=n)(hfn:fn<=1048576):
 Calls Tryz.prog 111 #[pair x a n cap,.slice fa fn zw] w fun e w'=>(∃v,e=.returned v/\uT CG 125 w' w.heap.size v (cK V L))/\Ext w w':=by
 obtain⟨W,hW⟩:=b9 (w.alloc (.cells #[.int .i64 x,.slice a n cap] 32));have HW:=ae hW;have O:=ae (show W.heap.size=w.heap.size+1 by rw[hW];simp);have uV:=ae (show Ext w W by rw[hW];exact Ext.alloc _ _);have D9:=ae (show W.cell? ⟨w.heap.size,1,none⟩=some (.slice a n cap)by rw[hW];simp);have D8:=ae (show W.cell? ⟨w.heap.size,0,none⟩=some (.int .i64 x)by rw[hW];simp);have xJ:=ae hV.hlen;have EU:=hV.l8;have ET:=hV.o0;have Kg:=h.l8;have Kf:=h.o0;have HV:=ae (hV.ext uV.o);have B0:=ae LM;have C2:=ae h.hlen;have HF:=ae (h.ext uV.o);have xi:=ae hL;have HO:=ae (uT.wJ CG 125 W (w.heap.size+1) (w.heap.size+1) O.o.symm (by rw[O.o];exact Nat.le_refl _));have Ib:=ae (jB (w:=W.alloc (.cells #[] 125)) x a n cap hn (HF.o.ext (Ext.alloc _ _)));have B4:=ae (dA L (n-2));have Fl:=ae (fun s=>il (L:=L) (m:=n-2) (s:=s));rw[hW]at Ib;clear h hL hV LM;go_enter Tryz.func111,Tryz.ntmps111
 go_wp2_with fail;refine Ib.o.mono ?_;rw[<-hW];clear hW;rintro e w1 ⟨⟨vf,rfl,Nf⟩,vO⟩;obtain⟨af,m,cf,rfl,RO⟩:=Nf.var;have Rn:=ae (Nf.mono (base':=w.heap.size+1) (by rw[World.size_alloc,O.o];omega));have EG:=ae RO.out;have X1:=ae ((Ext.alloc W _).trans vO);have vw:=ae (HO.o.ext vO);have Ti:=Nf.ints.l8;have Th:=Nf.ints.o0;have Tj:m<=1000:=by have:=B4.o;have:=EG.o;omega
 clear Nf vO RO Ib;go_wp2_with fail
 go_loopg [5,7] m (fun gk oo ii wr=>∃(k:Nat) (a1:j6) (Q p1:Nat),b7 (gk+k=m)/\ii=.int .i64 (k:Int)/\oo=.slice a1 Q p1/\b7 (uT CG 125 wr (w.heap.size+1) (.slice a1 Q p1) (bd V ((aN L (n-2)).take k)))/\b7 (o5 wr (w.heap.size+1) (.slice af m cf) (aN L (n-2)))/\b7 (Ext W wr))
 case atStart=>exact⟨0,_,_,_,ae e7,rfl,rfl,vw,Rn,X1⟩
 case round =>
  obtain⟨g1,o6⟩:=b9 gk;subst o6;obtain⟨o8,o4⟩:=b9 wr;subst o4;obtain⟨k,a1,Q,p1,U,rfl,rfl,Z,Pa,HX⟩:=hrel;have hsz:=HX.o.size;rw[O.o]at hsz;have hcv:o8.cell? ⟨w.heap.size,1,none⟩=some (.slice a n cap):=HX.o.j9 D9.o;by_cases hlt:k<m
  ·obtain⟨b,off,he,RC⟩:=Pa.o.ints.at hlt;subst he;obtain⟨s,hs⟩:=b9 ((aN L (n-2))[k]?.getD 0);rw[<-hs]at RC;have Ab:k<(aN L (n-2)).length:=by rw[EG.o];exact hlt
   have hsm:=Fl.o s (by rw[hs,List.getElem?_eq_getElem Ab];exact List.getElem_mem Ab);obtain⟨t,rfl⟩:∃t:Nat,s=t:=⟨s.toNat,by omega⟩;have PI:t<n:=by omega
   obtain⟨J,E,LF,I⟩:=HV.o.at PI;subst LF;have Dd:=ek B0.o t;obtain⟨y,hy⟩:=b9 (V[t]?.getD 0);rw[<-hy]at I Dd;have VT:=ae I;replace I:=HX.o.j9 I
   have xZ:=ae (show bd V ((aN L (n-2)).take k)++[((t:Int),1,true,-y,1)]=bd V ((aN L (n-2)).take (k+1))by
    rw[<-ke V Ab,<-hs,hy];rfl)
   have FU:IntKind.i64.wrap (-y)=-y:=by rw[IntKind.wrap_i64];omega
   have DQ:=ae (show(bd V ((aN L (n-2)).take k)).length<=1000 by rw[cZ,List.length_take];have:=B4.o;omega);have k7:Ext o8 o8.drew:=Ext.drew o8;clear hs hsm hy Ab;have FE:=ae (show some b≠(Value.slice a1 Q p1).ownBlock from fun e=>aU (by decide) Pa.o Z.o b rfl e.symm);have yx:Ext W o8:=HX.o;have k8:=ae (fun(w':World) (h:Ext W w') (hc:w'.cell? ⟨b,off+k,none⟩=some (.int .i64 (t:Int)))=>(⟨h.j9 D9.o,hc,h.j9 VT.o,h⟩:w'.cell? ⟨w.heap.size,1,none⟩=some (.slice (some ⟨J,E,none⟩) n cap)/\w'.cell? ⟨b,off+k,none⟩=some (.int .i64 (t:Int))/\w'.cell? ⟨J,E+t,none⟩=some (.int .i64 y)/\Ext W w'));go_wp2_with fail
   go_region_held3 (fun w'=>w'.cell? ⟨w.heap.size,1,none⟩=some (.slice (some ⟨J,E,none⟩) n cap)/\w'.cell? ⟨b,off+k,none⟩=some (.int .i64 (t:Int))/\w'.cell? ⟨J,E+t,none⟩=some (.int .i64 y)/\Ext W w')
    (first
      | with_reducible exact k8.o _ (yx.trans k7) (k7.j9 RC)
      | with_reducible exact k8.o _ (yx.trans (k7.trans (Ext.alloc _ _))) ((k7.trans (Ext.alloc _ _)).j9 RC)
      | with_reducible exact k8.o _ X5.o Rs.o)
    (first
      | (go_at_call 49
         (with_reducible refine(cl _ _).mono ?_)
         rintro e w3 ⟨rfl,vj⟩;have k7:Ext o8 w3:=k7.trans vj
         have Cs:=k7.size)
      | (refine bW _ j0 ?_
         refine eX CG Tryz.Gv rfl Tryz.underlying122 (by decide) _ _ j0 (w.heap.size+1) (.slice a1 Q p1) _ j0 (Z.o.ext (k7.trans (Ext.alloc _ _))) _ 1 1 [((t:Int),1,true,-y,1)] j0 (yM.lit CG _ _ _ 1 j0 _ j0 _ j0 e7) (j1 DQ.o) (by simp;omega) ?_;intro v5 w5 ho hg l7;have Lo:=ae ((Pa.o.ext (k7.trans (Ext.alloc _ _))).QD (Z.o.ext (k7.trans (Ext.alloc _ _))) (by decide) hg);have Rs:=ae (hg.cell ((k7.trans (Ext.alloc _ _)).j9 RC) FE.o);obtain⟨a5,n5,p5,rfl,zj⟩:=ho.var;have vU:=ae ho;have X5:=ae (ak (w0:=W) (HX.o.trans (k7.trans (Ext.alloc _ _))) hg (fun j hj=>by have:=Z.o.lt j hj;rw[O.o];omega))
         clear ho hg l7)
      | fail)
   clear yx;go_wp2_with fail
   go_roundg (g1-1)
   case measure=>have:=U.o;omega
   case rel=>exact⟨k+1,a5,n5,p5,ae (j1 U.o),by go_num,rfl,ae (by rw[<-xZ.o];exact vU.o),Lo,X5⟩
  ·have yV:k=m:=by have:=U.o;omega
   subst yV
   have xh:=ae (show bd V ((aN L (n-2)).take k)=eL V L 0 by
    have:(aN L (n-2)).take k=aN L (n-2):=List.take_of_length_le (by rw[EG.o];exact Nat.le_refl _)
    rw[this];unfold eL;rw[xJ.o];simp[aK])
   rw[xh.o]at Z
   have zA:=ae (fun j=>show(eL V L j).length<=1000+2*fn by
    unfold eL;rw[List.length_append,cZ,eo,List.length_take,xJ.o];have:=B4.o;have:=C2.o;omega)
   clear EG Pa U;go_wp2_with fail
   go_loopg [5,8] (fn+1) (fun gk oo ii wr=>∃(k:Nat) (a1:j6) (Q p1:Nat),b7 (gk+k=fn+1)/\ii=.int .i64 (k:Int)/\oo=.slice a1 Q p1/\b7 (uT CG 125 wr (w.heap.size+1) (.slice a1 Q p1) (if k<=fn then eL V L k else cK V L))/\b7 (Ext W wr))
   case atStart=>exact⟨0,_,_,_,ae e7,rfl,rfl,ae (by rw[if_pos e7];exact Z.o),HX⟩
   case round =>
    obtain⟨g2,wv⟩:=b9 gk;subst wv;obtain⟨G,vo⟩:=b9 wr;subst vo;obtain⟨k,a2,n2,p2,U,rfl,rfl,Hw,K⟩:=hrel;have AN:=K.o.size;rw[O.o]at AN;have Qf:G.cell? ⟨w.heap.size,1,none⟩=some (.slice a n cap):=K.o.j9 D9.o;by_cases hle:k<=fn
    ·rw[if_pos hle]at Hw;obtain⟨u,hu⟩:=b9 (n-1);have Xv:(n:Int)-1=(u:Int):=by omega
     have Bl:u<n:=by omega
     obtain⟨J,E,LF,I⟩:=HV.o.at Bl;subst LF;have Dd:=ek B0.o u;obtain⟨y,hy⟩:=b9 (V[u]?.getD 0);rw[<-hy]at I Dd;have VT:=ae I;replace I:=K.o.j9 I;have HU:=ae hu;have HY:=ae hy;have FU:IntKind.i64.wrap (-y)=-y:=by rw[IntKind.wrap_i64];omega
     clear hu hy
     go_upto_if 59 with(first|(go_at_call 49;refine(cl _ _).mono ?_;rintro e w3 ⟨rfl,vj⟩;have Cs:=vj.size))
     have BM:=ae (ag.new vj (-y) 1);have Ys:=vj.j9 Qf
     go_cut [9,10] (fun ss cc wx=>∃(S:Int) (g:Nat) (p q:Int),ss=.int .i64 S/\cc=.pointer (some ⟨g,0,none⟩)/\b7 (ag G wx g p q)/\b7 (eL V L k++yp S (p,q)=if k+1<=fn then eL V L (k+1) else cK V L)/\b7 (-1000000000<=p/\p<=1000000000))
     case first =>
      by_cases wm:k<fn
      ·obtain⟨fb,CE,c,fx,fy,Qc,Ng,Ki,Kh,Iq⟩:=HF.o.at wm;subst Qc;have Ab:k<L.length:=by rw[C2.o];exact wm
       have D2:=xi.o (c,fx,fy) (by rw[<-Ng,List.getElem?_eq_getElem Ab];exact List.getElem_mem Ab);simp only at D2;obtain⟨t,rfl⟩:∃t:Nat,c=t:=⟨c.toNat,by omega⟩;have PI:t<n:=by omega
       obtain⟨GZ,voff',LF,FX⟩:=HV.o.at PI;simp only[Option.some.injEq,Addr.mk.injEq,and_true]at LF;obtain⟨rfl,rfl⟩:=LF;obtain⟨z,hz⟩:=b9 (V[t]?.getD 0);rw[<-hz]at FX;obtain⟨p,q,ok,vK⟩:∃p q ok,vD (fx,fy) (z,1)=((p,q),ok):=⟨_,_,_,rfl⟩;have wI:=ae vK;have Q7:=ae (show -1000000000<=p/\p<=1000000000 by have:=ql (fx,fy) (z,1);rw[vK]at this;exact this)
       have R8:=ae (show eL V L k++yp (t:Int) (p,q)=eL V L (k+1)by
        rw[<-rV V Ab Ng];unfold eZ;simp only;rw[show((t:Int)).toNat=t by simp,<-hz,vK])
       have XW:=ae (K.o.trans vj);replace Ki:=XW.o.j9 Ki;have kf1:=K.o.j9 Kh;have kf2:=K.o.j9 Iq;have kvt:=K.o.j9 FX;replace Kh:=XW.o.j9 Kh;replace Iq:=XW.o.j9 Iq;replace FX:=XW.o.j9 FX;have hfl:fb<w3.heap.size:=World.block_lt_of_cell? _ _ Ki;have Ot:J<w3.heap.size:=World.block_lt_of_cell? _ _ FX;have p4:ag G (w3.alloc (.cells #[.int .i64 (-y),.int .i64 1] 62)).drew w3.heap.size (-y) 1:=BM.o.grow (Ext.drew _);have k7:=p4.ext;clear Ng Ab D2 hz vK Xv I;have k8:=ae (fun(w':World) (h:Ext G w')=>(⟨h.j9 Qf,h.j9 kf1,h.j9 kf2,h.j9 kvt,h⟩:w'.cell? ⟨w.heap.size,1,none⟩=some (.slice (some ⟨J,E,none⟩) n cap)/\w'.cell? ⟨fb,CE+k*3+1,none⟩=some (.int .i64 fx)/\w'.cell? ⟨fb,CE+k*3+2,none⟩=some (.int .i64 fy)/\w'.cell? ⟨J,E+t,none⟩=some (.int .i64 z)/\Ext G w'));clear kf1 kf2 kvt;go_wp2_with fail
       go_region_held3 (fun w'=>w'.cell? ⟨w.heap.size,1,none⟩=some (.slice (some ⟨J,E,none⟩) n cap)/\w'.cell? ⟨fb,CE+k*3+1,none⟩=some (.int .i64 fx)/\w'.cell? ⟨fb,CE+k*3+2,none⟩=some (.int .i64 fy)/\w'.cell? ⟨J,E+t,none⟩=some (.int .i64 z)/\Ext G w')
        (first
          | with_reducible exact k8.o _ k7
          | with_reducible exact k8.o _ (p4.put _ _).ext)
        (first
          | (go_at_call 49
             (with_reducible refine(cl _ _).mono ?_)
             rintro e w4 ⟨rfl,vW⟩;have p4:=p4.grow vW;have k7:=p4.ext;have At:=p4.c0;have xL:=p4.c1
             have Qm:=p4.free)
          | (go_at_call 180
             (with_reducible refine(pS _ _ _ _ _).mono ?_)
             rw[wI.o];rintro e w5 ⟨rfl,wX⟩;have p4:=p4.grow wX;have k7:=p4.ext;have At:=p4.c0;have xL:=p4.c1
             have Qm:=p4.free)
          | fail)
       go_wp2_with fail;go_meet;exact⟨_,_,_,_,rfl,rfl,ae (p4.put _ _),ae (by rw[if_pos e7];exact R8.o),Q7⟩
      ·have RL:k=fn:=by omega
       subst RL;go_wp2_with fail;go_meet
       exact⟨_,_,_,_,rfl,rfl,BM,ae (by
        rw[if_neg e7];unfold eL cK;rw[List.take_of_length_le (by rw[C2.o];exact Nat.le_refl _),xJ.o,<-HU.o,<-HY.o];rw[Xv]),ae e7⟩
     obtain⟨S,g,p,q,rfl,rfl,HB,HS,Q7⟩:=hcut;have Oz:=Q7.o;have At:=HB.o.c0;have xL:=HB.o.c1;have XC:=ae (K.o.trans HB.o.ext);have BK:=ae (Hw.o.ext HB.o.ext);have FE:=ae (an BK.o HB.o.cell (by decide));have Lu:=ae (zA.o k);have yx:Ext W wc:=XC.o;have k7:Ext wc wc.drew:=Ext.drew wc;have Di:=XC.o.size;rw[O.o]at Di;have k8:=ae (fun(w':World) (h:Ext W w') (h0:w'.cell? ⟨g,0,none⟩=some (.int .i64 p)) (h1:w'.cell? ⟨g,1,none⟩=some (.int .i64 q))=>(⟨h0,h1,h⟩:w'.cell? ⟨g,0,none⟩=some (.int .i64 p)/\w'.cell? ⟨g,1,none⟩=some (.int .i64 q)/\Ext W w'));clear Ys Qf I Xv;go_wp2_with fail
     go_region_held3 (fun w'=>w'.cell? ⟨g,0,none⟩=some (.int .i64 p)/\w'.cell? ⟨g,1,none⟩=some (.int .i64 q)/\Ext W w')
      (first
        | with_reducible exact k8.o _ (yx.trans k7) (k7.j9 At) (k7.j9 xL)
        | with_reducible exact k8.o _ (yx.trans (k7.trans (Ext.alloc _ _))) ((k7.trans (Ext.alloc _ _)).j9 At) ((k7.trans (Ext.alloc _ _)).j9 xL)
        | with_reducible exact k8.o _ X5.o Rs.o Wf.o)
      (first
        | (go_at_call 51
           (with_reducible refine(eB _ _ _ e7 e7).mono ?_)
           rintro e w4 ⟨rfl,vW⟩;have k7:Ext wc w4:=k7.trans vW
           have PQ:=k7.size)
        | (refine bW _ j0 ?_
           refine eX CG Tryz.Gv rfl Tryz.underlying122 (by decide) _ _ j0 (w.heap.size+1) (.slice a2 n2 p2) _ j0 (BK.o.ext (k7.trans (Ext.alloc _ _))) _ 2 2 (yp S (p,q)) j0 (yM.lit CG _ _ _ 2 j0 _ j0 _ j0 e7) (j1 Lu.o) (by simp;omega) ?_;intro v5 w5 ho hg l7;have Rs:=ae (hg.cell ((k7.trans (Ext.alloc _ _)).j9 At) FE.o);have Wf:=ae (hg.cell ((k7.trans (Ext.alloc _ _)).j9 xL) FE.o);obtain⟨a5,n5,p5,rfl,zj⟩:=ho.var;have vU:=ae ho;have X5:=ae (ak (w0:=W) (XC.o.trans (k7.trans (Ext.alloc _ _))) hg (fun j hj=>by have:=BK.o.lt j hj;rw[O.o];omega))
           clear ho hg l7)
        | fail)
     clear yx;go_wp2_with fail
     go_roundg (g2-1)
     case measure=>have:=U.o;omega
     case rel=>exact⟨k+1,a5,n5,p5,ae (j1 U.o),by go_num,rfl,ae (by rw[<-HS.o];exact vU.o),X5⟩
    ·have RL:k=fn+1:=by have:=U.o;omega
     have Xx:¬((k:Int)<=(fn:Int)):=by omega
     rw[if_neg hle]at Hw;go_wp2_with fail;go_ret;exact⟨⟨_,rfl,Hw.o.mono (Nat.le_succ _)⟩,uV.o.trans K.o⟩
def pos(ord:j7)(k:Nat):Nat:=(ord[k]?.getD 0).toNat
theorem Jy:∀n:Fin 6,∀s:Fin 32,∀k:Fin 5,s.val<cN n.val->k.val<n.val->bit ((s.val:Nat):Int) k.val=false ->
 s.val+cN k.val<cN n.val/\bits .or .i64 ((s.val:Nat):Int) (2^k.val)=((s.val+cN k.val:Nat):Int)/\∀j:Fin 5,bit ((s.val+cN k.val:Nat):Int) j.val=(bit ((s.val:Nat):Int) j.val||decide (j.val=k.val)):=by decide +kernel
theorem join(n s k:Nat)(hn:n<=5)(hs:s<cN n)(hk:k<n)(hb:bit (s:Int) k=false):
 s+cN k<cN n/\bits .or .i64 (s:Int) (2^k)=((s+cN k:Nat):Int)/\∀j,j<5->bit ((s+cN k:Nat):Int) j=(bit (s:Int) j||decide (j=k)):=by
 have h:=Jy ⟨n,by omega⟩ ⟨s,by have:=cW n hn;omega⟩ ⟨k,by omega⟩ hs hk hb;exact⟨h.1,h.2.1,fun j E=>h.2.2 ⟨j,E⟩⟩
theorem sy{p:Int}(h:aH p V=true):∀i:Nat,-500<=V[i]?.getD 0/\V[i]?.getD 0<=500:=fun i=>by
 obtain⟨_,_,_,_,_,_,E⟩:=bF h;by_cases hi:i<V.length
 ·have:=E _ (List.getElem_mem hi);simpa[hi]using this
 ·simp[List.getElem?_eq_none (by omega:V.length<=i)]
theorem xV.take{cap:Nat}{l:j2}(h:xV w a n cap l)(hk:k<=n):xV w a k cap (l.take k) :=
 ⟨by have:=h.hlen;simp;omega,by have:=h.l8;omega,h.o0,fun j hj=>by
  obtain⟨b,off,e,hc⟩:=h.cell j e7;refine⟨b,off,e,fun i hi=>?_⟩;have:=hc i e7
  rwa [List.getElem?_take,if_pos hi]⟩
theorem xV.drewN{cap:Nat}{l:j2}(h:xV w a n cap l)(m:Nat):xV (w.drewN m) a n cap l:=h.ext (below_drewN (Ext.refl w) m)
def A3(L:j2)(hi:Int)(k:Nat):Bool:=(List.range k).all fun i=>r' (L[i]?.getD (0,0,0)).1 1 hi&&!xT (L.take i) (L[i]?.getD (0,0,0)).1
theorem nI(L:j2)(hi:Int)(k:Nat):A3 L hi (k+1)=(A3 L hi k&&(r' (L[k]?.getD (0,0,0)).1 1 hi&&!xT (L.take k) (L[k]?.getD (0,0,0)).1)):=by simp[A3,List.range_succ]
theorem gn{hi:Int}{m:Nat}(h:(r' (L[k]?.getD (0,0,0)).1 1 hi&&!xT (L.take k) (L[k]?.getD (0,0,0)).1)=false)(hk:k<m):A3 L hi m=false:=by
 rw[A3,List.all_eq_false];exact⟨k,List.mem_range.2 hk,by rw[h];simp⟩
theorem Jj{hi:Int}(h:A3 L hi L.length=true):∀f∈L,1<=f.1/\f.1<=hi:=by
 intro f hf;obtain⟨k,hk,rfl⟩:=List.getElem_of_mem hf;have:=(List.all_eq_true.1 h) k (List.mem_range.2 hk);rw[List.getElem?_eq_getElem hk]at this;simp only[Option.getD_some,Bool.and_eq_true,r',decide_eq_true_eq]at this;exact this.1
def dG(p:Int)(V:j7)(L:j2):Bool:=aH p V&&(decide (2<=p)&&(A3 L ((V.length:Int)-2) L.length&&decide (0<(aN L (V.length-2)).length)))
theorem GK(h2:2<=n)(h5:n<=5):4<=cN n:=by
 have:n=2∨n=3∨n=4∨n=5:=by omega
 rcases this with rfl|rfl|rfl|rfl<;>decide
theorem uE{p:Int}{cap:Nat}(J:Ints w a n cap V)(h:xV w fa fn zw L)(hfn:fn<=1048576):
 Calls Tryz.prog 110 #[pair p a n cap,.slice fa fn zw] w fun e w'=>e=.returned (.bool (dG p V L))/\Ext w w':=by
 obtain⟨W,hW⟩:=b9 (w.alloc (.cells #[.int .i64 p,.slice a n cap] 32));have wT:=ae (show W.heap.size=w.heap.size+1 by rw[hW];simp);have uV:=ae (show Ext w W by rw[hW];exact Ext.alloc _ _);have D9:=ae (show W.cell? ⟨w.heap.size,1,none⟩=some (.slice a n cap)by rw[hW];simp);have U:=ae (show W.cell? ⟨w.heap.size,0,none⟩=some (.int .i64 p)by rw[hW];simp);have xJ:=ae J.hlen;have EU:=J.l8;have ET:=J.o0;have Kg:=h.l8;have Kf:=h.o0;have Z:=ae h.hlen;have HF:=ae (h.ext uV.o);have HC:=ae (dU (p:=p) (J.ext uV.o));have Cb:=ae (J.ext uV.o);clear h J;cases hg:aH p V
 ·have HG:=ae (show dG p V L=false by unfold dG;rw[hg];rfl);rw[hg,hW]at HC;clear hg;go_enter Tryz.func110,Tryz.ntmps110
  go_wp2_with fail;refine HC.o.mono ?_;rw[<-hW];rintro e w1 ⟨rfl,E⟩;go_wp2_with fail;go_ret;exact⟨ai HG.o.symm,uV.o.trans E⟩
 ·obtain⟨q,hq,h1,h5,hlen,_,xK⟩:=bF hg;have N3:=ae hg;rw[hg,hW]at HC;clear hg;by_cases PU:p<2
  ·have HG:=ae (show dG p V L=false by unfold dG;rw[N3.o,decide_eq_false (by omega:¬2<=p)];rfl);clear hq hlen xK;go_enter Tryz.func110,Tryz.ntmps110
   go_wp2_with fail;refine HC.o.mono ?_;rw[<-hW];rintro e w1 ⟨rfl,E⟩;have wK:=E.j9 U.o;go_wp2_with fail;go_ret;exact⟨ai HG.o.symm,uV.o.trans E⟩
  ·have EZ:4<=n:=by have:=GK (n:=q) e7 h5;rw[<-xJ.o,hlen];exact this
   have BS:n<=32:=by have:=cW q h5;rw[<-xJ.o,hlen];exact this.2
   clear hq hlen xK;go_enter Tryz.func110,Tryz.ntmps110
   go_wp2_with fail;refine HC.o.mono ?_;rw[<-hW];rintro e w1 ⟨rfl,E⟩;have vh:=ae E;have wK:=E.j9 U.o;clear E;have HW:=ae hW;clear hW;go_wp2_with fail;clear wK
   go_loopg [5] fn (fun gk ii wr=>∃k:Nat,b7 (gk+k=fn)/\ii=.int .i64 (k:Int)/\b7 (A3 L ((n:Int)-2) k=true)/\b7 (Ext W wr))
   case atStart=>exact⟨0,ae e7,rfl,ae rfl,vh⟩
   case round =>
    obtain⟨g1,o6⟩:=b9 gk;subst o6;obtain⟨K,o4⟩:=b9 wr;subst o4;obtain⟨k,O,rfl,HO,HX⟩:=hrel;have hcv:K.cell? ⟨w.heap.size,1,none⟩=some (.slice a n cap):=HX.o.j9 D9.o;by_cases hlt:k<fn
    ·have G:=ae (HF.o.ext HX.o);obtain⟨b,off,c,x,y,rfl,I,Ki,Kh,Iq⟩:=G.o.at hlt;have FU:IntKind.i64.wrap ((n:Int)-2)=(n:Int)-2:=by rw[IntKind.wrap_i64];omega
     cases hb:r' c 1 ((n:Int)-2)
     ·have HG:=ae (show dG p V L=false by
       unfold dG;rw[Z.o,xJ.o,gn (k:=k) (m:=fn) (by rw[I];simp only;rw[hb];rfl) hlt];simp)
      clear I
      go_wp2
      go_quiet ((first|(go_at_call 45;exact bK (bm _ _ _ _))))
      go_wp2
      go_ret;exact⟨ai HG.o.symm,uV.o.trans (HX.o.trans (yU.ext ⟨_,rfl⟩))⟩
     ·cases hh:xT (L.take k) c
      ·have HN:=ae (show A3 L ((n:Int)-2) (k+1)=true by rw[nI,HO.o,I];simp only;rw[hb,hh];rfl);clear I
       go_wp2
       go_quiet ((first|(go_at_call 45;exact bK (bm _ _ _ _))|(go_at_call 113;exact bK (kR ((G.o.drewN _).take e7) _))))
       go_wp2
       go_roundg (g1-1)
       case measure=>have:=O.o;omega
       case rel=>exact⟨k+1,ae (j1 O.o),by go_num,HN,ae (HX.o.trans (yU.ext ⟨_,rfl⟩))⟩
      ·have HG:=ae (show dG p V L=false by
        unfold dG;rw[Z.o,xJ.o,gn (k:=k) (m:=fn) (by rw[I];simp only;rw[hh];simp) hlt];simp)
       clear I
       go_wp2
       go_quiet ((first|(go_at_call 45;exact bK (bm _ _ _ _))|(go_at_call 113;exact bK (kR ((G.o.drewN _).take e7) _))))
       go_wp2
       go_ret;exact⟨ai HG.o.symm,uV.o.trans (HX.o.trans (yU.ext ⟨_,rfl⟩))⟩
    ·have RL:k=fn:=by have:=O.o;omega
     subst RL;have hcw:K.cell? ⟨w.heap.size,0,none⟩=some (.int .i64 p):=HX.o.j9 U.o;have Q:=ae (jB (w:=K) p a n cap e7 (HF.o.ext HX.o))
     have HG:=ae (show dG p V L=decide (0<(aN L (n-2)).length)by
      unfold dG;rw[N3.o,Z.o,xJ.o,HO.o,decide_eq_true (show 2<=p by omega)];simp)
     go_wp2_with fail;refine Q.o.mono ?_;rintro e w2 ⟨⟨v,rfl,ho⟩,vL⟩;obtain⟨af,m,cf,rfl,hm⟩:=ho.var;have HM:=ae hm.out;clear ho hm;have Cu:decide ((m:Int) > 0)=decide (0<(aN L (n-2)).length):=by rw[HM.o];rw[Bool.eq_iff_iff];simp
     clear Cu;go_wp2_with fail;go_ret;exact⟨ai (by rw[HG.o,HM.o]),uV.o.trans (HX.o.trans vL)⟩
def Jk(q k:Nat)(c:Ii):Bool:=if k<q then yq c.1 (k:Int) else c.2.2.1
def yY(q8:List Ii)(q k:Nat):j7:=q8.map fun c=>c.2.1*vX (Jk q k c)
def stA(q:Nat)(V:j7)(L:j2):j5:=(List.range (q+1)).map (yY (cK V L) q)
def Gs(q:Nat):j7:=(List.range (q+1)).map fun k=>vX (decide (k=q))
def BF(V:j7)(L:j2):j4:=(cK V L).map fun c=>c.2.2.2
def wu(p:Int)(V:j7)(L:j2):Bool:=dG p V L&&xC (BF V L)
def C5(p:Int)(V:j7)(L:j2):j5:=if wu p V L=true then stA p.toNat V L else []
def C4(p:Int)(V:j7)(L:j2):j7:=if wu p V L=true then Gs p.toNat else []
def C3(p:Int)(V:j7)(L:j2):j4:=if wu p V L=true then BF V L else []
def lg(w:World)(base:Nat)(e:Ending)(A:j5)(B:j7)(C:j4)(ok:Bool):Prop :=
 ∃va vb vc vs,e=.returned (.tuple #[.agg #[va,vb,vc],.bool ok])/\vv w base va vs/\bu w base vs A/\o5 w base vb B/\l9 w base vc C/\Be vs vb
theorem oF(hn:V.length=n)(h1:1<=n)(E:∀f∈L,1<=f.1/\f.1+2<=n):∀c∈cK V L,(c.2.1=1∨c.2.1=-1)/\0<=c.1/\c.1<=n:=by
 intro c hc;unfold cK at hc;simp only[List.mem_append]at hc
 rcases hc with(hc|hc)|hc
 ·obtain⟨s,hs,rfl⟩:=List.mem_map.1 hc;have:=il hs;exact⟨.inl rfl,by simp only;omega,by simp only;omega⟩
 ·obtain⟨f,hf,h2⟩:=List.mem_flatMap.1 hc;have:=E f hf;simp only[yp,List.mem_cons,List.not_mem_nil,or_false]at h2
  rcases h2 with rfl|rfl
  ·exact⟨.inl rfl,by simp only;omega,by simp only;omega⟩
  ·exact⟨.inr rfl,by simp only;omega,by simp only;omega⟩
 ·simp only[yp,List.mem_cons,List.not_mem_nil,or_false]at hc
  rcases hc with rfl|rfl
  ·exact⟨.inl rfl,by simp only;omega,by simp only;omega⟩
  ·exact⟨.inr rfl,by simp only;omega,by simp only;omega⟩
theorem tD(V:j7)(L:j2):(cK V L).length<=V.length+2*L.length+2:=by
 unfold cK;have:=dA L (V.length-2);rw[List.length_append,List.length_append,cZ,eo];simp only[yp,List.length_cons,List.length_nil];omega
theorem MB{q:Nat}{b:Bool}(h:b=decide (k=q)):((k:Int) == (q:Int))=b:=by
 subst h;by_cases e:k=q
 ·subst e;simp
 ·rw[decide_eq_false e];simp;omega
theorem jd{α β:Type}(f:α->β){l:List α}{x:α}(h:l[k]?=some x):(l.take k).map f++[f x]=(l.take (k+1)).map f:=by rw[es h];simp
theorem uC{p:Int}{cap:Nat}(hV:Ints w a n cap V)(h:xV w fa fn zw L)(hfn:fn<=1048576):
 Calls Tryz.prog 54 #[pair p a n cap,.slice fa fn zw] w fun e w' =>
  lg w' w.heap.size e (C5 p V L) (C4 p V L) (C3 p V L) (wu p V L)/\Ext w w':=by
 obtain⟨W,hW⟩:=b9 ((w.alloc (.cells #[.int .i64 p,.slice a n cap] 32)).alloc (.cells #[.slice none 0 0,.slice none 0 0,.slice none 0 0] 68));have G:=ae (show W.heap.size=w.heap.size+2 by rw[hW];simp);have uV:=ae (show Ext w W by rw[hW];exact(Ext.alloc _ _).trans (Ext.alloc _ _));have D9:=ae (show W.cell? ⟨w.heap.size,1,none⟩=some (.slice a n cap)by rw[hW];simp);have D8:=ae (show W.cell? ⟨w.heap.size,0,none⟩=some (.int .i64 p)by rw[hW];simp);have K1:=ae (show W.heap[w.heap.size+1]?=some (.cells #[.slice none 0 0,.slice none 0 0,.slice none 0 0] 68 (0,0))by rw[hW];exact aj _ _ _ e8);have xJ:=ae hV.hlen;have EU:=hV.l8;have ET:=hV.o0;have Kg:=h.l8;have Kf:=h.o0;have C2:=ae h.hlen;have HF:=ae (h.ext uV.o);have Cb:=ae (hV.ext uV.o);have HC:=ae (uE (p:=p) (hV.ext uV.o) (h.ext uV.o) hfn);clear h hV;cases hg:dG p V L
 ·have HG:=ae (show wu p V L=false by unfold wu;rw[hg];rfl);rw[hg,hW]at HC;clear hg;go_enter Tryz.func54,Tryz.ntmps54
  go_wp2_with fail;refine HC.o.mono ?_;rw[<-hW];rintro e K ⟨rfl,O⟩;have xA:K.cell? ⟨w.heap.size+1,0,none⟩=some (.slice none 0 0):=by rw[cell_of_row K _ 0 _ _ _ ((O.block _ (by rw[G.o];omega)).trans K1.o)];rfl
  have xm:K.cell? ⟨w.heap.size+1,1,none⟩=some (.slice none 0 0):=by rw[cell_of_row K _ 1 _ _ _ ((O.block _ (by rw[G.o];omega)).trans K1.o)];rfl
  have yI:K.cell? ⟨w.heap.size+1,2,none⟩=some (.slice none 0 0):=by rw[cell_of_row K _ 2 _ _ _ ((O.block _ (by rw[G.o];omega)).trans K1.o)];rfl
  have CT:∀j,K.frozen? ⟨w.heap.size+1,j,none⟩=false:=fun j=>frozen_of_row K _ j _ _ ((O.block _ (by rw[G.o];omega)).trans K1.o)
  have vh:=ae (uV.o.trans O);have WT:=O.size;rw[G.o]at WT;clear O;go_wp2_with fail;refine bodyPost_ret (v:=.tuple #[.agg #[.slice none 0 0,.slice none 0 0,.slice none 0 0],.bool false]) (by simp[results,Tryz.results54,go_sem,xA,xm,yI]) rfl ⟨⟨_,_,_,[],by rw[HG.o],vv.nil _ _,?_,?_,?_,Be.nil _⟩,?_⟩
  ·unfold C5;rw[HG.o,if_neg e8];exact bu.nil _ _
  ·unfold C4;rw[HG.o,if_neg e8];exact o5.nil _ _
  ·unfold C3;rw[HG.o,if_neg e8];exact l9.nil _ _
  ·exact((vh.o.setCell e8 _).setCell e8 _).setCell e8 _
 ·have hgo:aH p V=true/\2<=p/\A3 L ((V.length:Int)-2) L.length=true:=by
   unfold dG at hg;simp only[Bool.and_eq_true,decide_eq_true_eq]at hg;exact⟨hg.1,hg.2.1,hg.2.2.1⟩
  obtain⟨q,rfl,h1,h5,hlen,_,xK⟩:=bF hgo.1;have h2q:2<=q:=by omega
  have EZ:4<=n:=by have:=GK h2q h5;rw[<-xJ.o,hlen];exact this
  have BS:n<=32:=by have:=cW q h5;rw[<-xJ.o,hlen];exact this.2
  have RU:∀f∈L,1<=f.1/\f.1+2<=n:=fun f hf=>by have:=Jj hgo.2.2 f hf;have:=xJ.o;omega
  have AV:=ae (fun(K:World) (hx:Ext W K)=>pT (w:=K) (q:Int) (Cb.o.ext hx) xK e7 e7 (HF.o.ext hx) RU hfn);have UI:=ae (show wu (q:Int) V L=xC (BF V L)by unfold wu;rw[hg];rfl);obtain⟨q8,y7⟩:=b9 (cK V L);have B6:=ae (oF xJ.o e7 RU);have N9:=ae (tD V L);rw[<-y7]at AV B6 N9;have Pd:=ae y7;rw[hg,hW]at HC;clear hg hgo hlen xK RU y7;go_enter Tryz.func54,Tryz.ntmps54
  go_wp2_with fail;refine HC.o.mono ?_;rw[<-hW];clear hW;rintro e K ⟨rfl,O⟩;have vh:=ae O;have wK:=O.j9 D8.o;have xB:=O.j9 D9.o;clear O HC;go_wp2_with fail;clear wK xB;refine(AV.o K vh.o).mono ?_;rintro e w2 ⟨⟨vcs,rfl,M0⟩,vL⟩;obtain⟨ac,m,cc,rfl,hm⟩:=M0.var;have HM:=ae hm.out;have wF:=ae (vh.o.trans vL);have AN:=wF.o.size;rw[G.o]at AN;have BK:=ae ((M0.mono (base':=w.heap.size+2) (by have:=vh.o.size;rw[G.o]at this;omega)).ext (Ext.alloc w2 (.cells #[.slice none 0 0,.slice none 0 0,.slice none 0 0] 68)));have hccap:=M0.A2.l8;have hcmax:=M0.A2.o0;have Tj:m<=3000000:=by have h1:=N9.o;have h2:=HM.o;have h3:=xJ.o;have h4:=C2.o;omega
  have FG:=ae (vz.new (w:=w2) (base:=w.heap.size+2) AN);clear M0 hm vL AV;go_wp2_with fail
  go_loopg [8] (q+1) (fun gk ii wr=>∃(k:Nat) (va vb:Value) (vs:List Value),b7 (gk+k=q+1)/\ii=.int .i64 (k:Int)/\b7 (vz wr (w.heap.size+2) w2.heap.size va vb (.slice none 0 0) vs ((List.range k).map (yY q8 q)) ((List.range k).map fun k=>vX (decide (k=q))) [])/\b7 (uT CG 125 wr (w.heap.size+2) (.slice ac m cc) q8)/\b7 (Ext W wr))
  case atStart=>exact⟨0,_,_,_,ae e7,rfl,FG,BK,ae (wF.o.trans (Ext.alloc _ _))⟩
  case round =>
   obtain⟨g1,o6⟩:=b9 gk;subst o6;obtain⟨U,o4⟩:=b9 wr;subst o4;obtain⟨k,va,vb,vs,HK,rfl,Bi,xN,HX⟩:=hrel;have Cq:=HX.o.size;rw[G.o]at Cq;have Kl:U.cell? ⟨w.heap.size,0,none⟩=some (.int .i64 (q:Int)):=HX.o.j9 D8.o;obtain⟨aA,nA,cA,rfl,O7⟩:=Bi.o.a.var;obtain⟨aB,nB,cB,rfl,Ef⟩:=Bi.o.b.var;by_cases hkq:k<=q
   ·have UB:=ae (o5.wJ U U.heap.size _ rfl (Nat.le_refl _));go_wp2_with fail
    go_loopg [9,10] m (fun gk row jj wr=>∃(j:Nat) (a1:j6) (n1 p1:Nat),b7 (gk+j=m)/\jj=.int .i64 (j:Int)/\row=.slice a1 n1 p1/\b7 (o5 wr U.heap.size (.slice a1 n1 p1) (yY (q8.take j) q k))/\b7 (Ext U wr))
    case atStart=>exact⟨0,_,_,_,ae e7,rfl,rfl,UB,ae (Ext.alloc _ _)⟩
    case round =>
     obtain⟨g2,wv⟩:=b9 gk;subst wv;obtain⟨wr2,vo⟩:=b9 wr;subst vo;obtain⟨j,a1,n1,p1,HJ,rfl,rfl,O1,E⟩:=hrel;have BP:=E.o.size;have TD:=E.o.j9 Kl;by_cases Cw:j<m
     ·obtain⟨cb,Bc,⟨c0,Q,fr,cx,cy⟩,OL,Cy,hcc⟩:=(xN.o.ext E.o).A2.at Cw;subst OL;have k0:wr2.cell? ⟨cb,Bc+j*5,none⟩=some (.int .i64 c0):=hcc 0 _ rfl;have k1:wr2.cell? ⟨cb,Bc+j*5+1,none⟩=some (.int .i64 Q):=hcc 1 _ rfl;have k2:wr2.cell? ⟨cb,Bc+j*5+2,none⟩=some (.bool fr):=hcc 2 _ rfl;have D2:=B6.o (c0,Q,fr,cx,cy) (List.mem_of_getElem? Cy);simp only at D2;obtain⟨AB,hc00,hc0n⟩:=D2;have A1:=ae AB;obtain⟨on,Xp⟩:=b9 (Jk q k (c0,Q,fr,cx,cy));have HON:=ae Xp;have xZ:=ae (show yY (q8.take j) q k++[Q*vX on]=yY (q8.take (j+1)) q k by rw[Xp];exact jd _ Cy);have xW:=ae (show(yY (q8.take j) q k).length<=3000000 by unfold yY;rw[List.length_map,List.length_take];have:=HM.o;omega);have FE:=ae (show some cb≠(Value.slice a1 n1 p1).ownBlock from fun e=>aU (e:=3) (e':=125) (by decide) O1.o (xN.o.ext E.o) cb e.symm rfl);clear hcc Cy Xp AB
      go_upto_if 43 with fail
      go_cut [11] (fun bb wx=>bb=.bool on/\b7 (Ext wr2 wx))
      case first =>
       by_cases hlt:k<q
       ·have Vs:yq c0 (k:Int)=on:=by rw[HON.o];unfold Jk;rw[if_pos hlt]
        go_wp2_with (first|(go_at_call 40;refine(eg _ _ _ e7).mono ?_;rw[Vs];rintro e w' ⟨rfl,rfl⟩));go_meet;exact⟨rfl,ae (Ext.refl _)⟩
       ·have DN:fr=on:=by rw[HON.o];unfold Jk;rw[if_neg hlt]
        subst DN;go_wp2_with fail;go_meet;exact⟨rfl,ae (Ext.refl _)⟩
      obtain⟨rfl,Bz⟩:=hcut;replace k1:=Bz.o.j9 k1;have k7:Ext U wc.drew:=(E.o.trans Bz.o).trans (Ext.drew _);have hmul:IntKind.i64.wrap (Q*vX on)=Q*vX on:=by
       rw[IntKind.wrap_i64];have h1:=A1.o;cases on<;>rcases h1 with rfl|rfl<;>decide
      have k8:=ae (fun(w':World) (h:Ext U w') (h1:w'.cell? ⟨cb,Bc+j*5+1,none⟩=some (.int .i64 Q))=>(⟨h1,h⟩:w'.cell? ⟨cb,Bc+j*5+1,none⟩=some (.int .i64 Q)/\Ext U w'));have Uy:=ae (O1.o.ext Bz.o);have yx:Ext wc wc.drew:=Ext.drew wc;have M7:Ext wc (wc.alloc (.cells #[.int .i64 (Q*vX on)] 3)).drew:=(Ext.alloc _ _).trans (Ext.drew _);have GL:=ae (E.o.trans Bz.o);have Di:=GL.o.size;have Rk:=ae k1;clear k0 k2 k7;go_wp2_with fail
      go_region_held3 (fun w'=>w'.cell? ⟨cb,Bc+j*5+1,none⟩=some (.int .i64 Q)/\Ext U w')
       (first
         | with_reducible exact k8.o _ (GL.o.trans yx) (yx.j9 Rk.o)
         | with_reducible exact k8.o _ (GL.o.trans M7) (M7.j9 Rk.o)
         | with_reducible exact k8.o _ He TK)
       (first
         | (go_at_call 104
            (with_reducible refine(fD _ _).mono ?_)
            rintro e w4 ⟨rfl,rfl⟩)
         | (refine bW _ j0 ?_
            refine cD _ _ j0 U.heap.size (.slice a1 n1 p1) _ j0 (Uy.o.ext M7) _ 1 _ [Q*vX on] j0 ((Ints.zp wc _ _ _ rfl).ext (Ext.drew _)) (j1 xW.o) (by simp;omega) ?_;intro v5 w5 ho hg l7;have TK:=hg.cell (M7.j9 Rk.o) FE.o;obtain⟨a5,n5,p5,rfl,zj⟩:=ho.var;have vU:=ae ho;have He:=ak (w0:=U) (GL.o.trans M7) hg (fun j hj=>(Uy.o.lt j hj).1)
            clear ho hg l7)
         | fail)
      have X5:=ae He;clear He TK M7;clear yx;go_wp2_with fail
      go_roundg (g2-1)
      case measure=>have:=HJ.o;omega
      case rel=>exact⟨j+1,a5,n5,p5,ae (j1 HJ.o),by go_num,rfl,ae (by rw[<-xZ.o];exact vU.o),X5⟩
     ·have Cv:j=m:=by have:=HJ.o;omega
      subst Cv;have HT:=ae (show q8.take j=q8 from List.take_of_length_le (by rw[HM.o];exact Nat.le_refl _));rw[HT.o]at O1;have wg:=ae (Bi.o.ext E.o);have At:=wg.o.c0;have H7:=ae (show vs.length<=6 by rw[Bi.o.rows.len,List.length_map,List.length_range];omega);have Hw:=ae (xN.o.ext E.o);have XR:=ae (HX.o.trans E.o)
      go_wp2_with (first
       | (at_builtin;refine eF rfl _ _ rfl (w.heap.size+2) (.slice aA nA cA) vs rfl (wg.o.a.ext (Ext.alloc _ _)) _ _ 1 rfl (by simp;rfl) rfl (j1 H7.o) (by simp;omega) ?_;intro v6 w6 ho hg l7;have Ei:=ae (Bi.o.Ch (E.o.trans (Ext.alloc _ _)) (O1.o.ext (Ext.alloc _ _)) e7 hg ho l7);have BJ:=wg.o.F' (Ext.alloc _ _) hg;have RQ:=vz.ym BJ;have Yk:=vz.y8 BJ 0;have UJ:=ae ((Hw.o.CD (Ext.alloc _ _) wg.o.a (by decide) hg).I0 BJ (by decide) 0 v6);have X6:=ae (((XR.o.trans (Ext.alloc _ _)).grown hg (fun j hj=>by rw[G.o];exact(Bi.o.a.lt j hj).1)).store (b:=w2.heap.size) 0 (by rw[G.o];exact AN) v6);obtain⟨a6,n6,p6,rfl,Eh⟩:=ho.var;clear ho hg l7 BJ))
      have Yw:=Ext.j9 X6.o D8.o;have YM:=Ei.o.c1;clear RQ Yk At TD;obtain⟨w7,Am⟩:=b9 (w6.setCell ⟨w2.heap.size,0,none⟩ (.slice a6 n6 p6));have ZG:=ae (show uT CG 125 w7 (w.heap.size+2) (.slice ac j cc) q8 by rw[Am];exact UJ.o);rw[<-Am]at Ei X6 Yw YM;rw[<-Am];clear UJ Am;have Yf:=Ei.o.lt;have SR:=X6.o.size;rw[G.o]at SR;obtain⟨bq,YF⟩:=b9 (decide (k=q));have hbe:((k:Int) == (q:Int))=bq:=MB YF;have HBQ:=ae YF;have Cd:=ae (show((List.range k).map fun k=>vX (decide (k=q))).length<=6 by simp;omega);clear YF
      go_region_law (first
       | (refine bW _ rfl (cD _ _ rfl (w.heap.size+2) (.slice aB nB cB) _ rfl ((Ei.o.b.ext (Ext.alloc _ _)).ext (Ext.drew _)) _ 1 _ [vX bq] rfl ((Ints.zp _ _ _ _ rfl).ext (Ext.drew _)) (j1 Cd.o) (by simp;omega) ?_);intro v8 w8 ho hg l7;have XA:=(Ext.alloc w7 (.cells #[.int .i64 (vX bq)] 3)).trans (Ext.drew _);have Rj:=ae (Ei.o.pushB XA hg ho l7);have A':=Ei.o.Hm XA hg;have hc8:=vz.yk A';have hf8:=vz.y8 A' 1;have Rb:=ae ((ZG.o.KA XA Ei.o.b (by decide) hg).I0 A' (by decide) 1 v8);have X8:=ae (((X6.o.trans XA).grown hg (fun j hj=>by rw[G.o];exact(Ei.o.b.lt j hj).1)).store (b:=w2.heap.size) 1 (by rw[G.o];exact AN) v8);obtain⟨a8,n8,p8,rfl,Eg⟩:=ho.var;clear ho hg l7 A')
       | (go_simp;go_at_call 104;refine(fD _ _).mono ?_;rintro e w' ⟨rfl,rfl⟩))
      all_goals
       go_wp2
       go_roundg (g1-1)
       case measure=>have:=HK.o;omega
       case rel=>exact⟨k+1,_,_,_,ae (j1 HK.o),by go_num,ae (by rw[List.range_succ,List.map_append,List.map_append];have:=Rj.o;rw[HBQ.o]at this;exact this),Rb,X8⟩
   ·have XO:k=q+1:=by have:=HK.o;omega
    have hnkq:¬((k:Int)<=(q:Int)):=by omega
    subst XO;obtain⟨AA,Y1⟩:=b9 ((List.range (q+1)).map (yY q8 q));obtain⟨BB,p4⟩:=b9 ((List.range (q+1)).map fun k=>vX (decide (k=q)))
    rw[<-Y1,<-p4]at Bi;have HAA:=ae (show AA=stA q V L by rw[Y1,Pd.o];rfl);have AF:=ae (show BB=Gs q from p4);clear Y1 p4;go_wp2_with fail
    go_loopg [12] m (fun gk jj wr=>∃(j:Nat) (vc:Value),b7 (gk+j=m)/\jj=.int .i64 (j:Int)/\b7 (vz wr (w.heap.size+2) w2.heap.size (.slice aA nA cA) (.slice aB nB cB) vc vs AA BB ((q8.take j).map fun c=>c.2.2.2))/\b7 (uT CG 125 wr (w.heap.size+2) (.slice ac m cc) q8)/\b7 (Ext W wr))
    case atStart=>exact⟨0,_,ae e7,rfl,Bi,xN,HX⟩
    case round =>
     obtain⟨g3,AT⟩:=b9 gk;subst AT;obtain⟨Z,yE⟩:=b9 wr;subst yE;obtain⟨j,vc,HJ,rfl,J,vi,E⟩:=hrel;have BP:=E.o.size;rw[G.o]at BP;have Yf:=J.o.lt;have wU:=J.o.c2;obtain⟨aC,nC,cC,rfl,UN⟩:=J.o.c.var;by_cases Cw:j<m
     ·obtain⟨cb,Bc,⟨c0,Q,fr,cx,cy⟩,OL,Cy,hcc⟩:=vi.o.A2.at Cw;subst OL;have k3:Z.cell? ⟨cb,Bc+j*5+3,none⟩=some (.int .i64 cx):=hcc 3 _ rfl;have k4:Z.cell? ⟨cb,Bc+j*5+4,none⟩=some (.int .i64 cy):=hcc 4 _ rfl;have VE:cb<Z.heap.size:=World.block_lt_of_cell? _ _ k3;have xZ:=ae (show((q8.take j).map fun c=>c.2.2.2)++[(cx,cy)]=(q8.take (j+1)).map fun c=>c.2.2.2 from jd (fun c:Ii=>c.2.2.2) Cy);have xW:=ae (show((q8.take j).map fun c=>c.2.2.2).length<=3000000 by rw[List.length_map,List.length_take];have:=HM.o;omega);clear hcc Cy;go_wp2_with fail
      go_region_law (first
       | (refine bW _ rfl (cU _ _ rfl (w.heap.size+2) (.slice aC nC cC) _ rfl ((J.o.c.ext (Ext.alloc _ _)).ext (Ext.drew _)) _ 1 _ [(cx,cy)] rfl ((Rats.one' _ _ _ _ _ rfl).ext (Ext.drew _)) (j1 xW.o) (by simp;omega) ?_);intro v8 w8 ho hg l7;have XA:=(Ext.alloc Z (.cells #[.int .i64 cx,.int .i64 cy] 62)).trans (Ext.drew _);have Rj:=ae (J.o.Oh XA hg ho);have A':=J.o.T8 XA hg;have hc8:=vz.yj A';have hf8:=vz.y8 A' 2;have Rb:=ae ((vi.o.Kz XA J.o.c (by decide) hg).I0 A' (by decide) 2 v8);have X8:=ae (((E.o.trans XA).grown hg (fun j hj=>by rw[G.o];exact(J.o.c.lt j hj).1)).store (b:=w2.heap.size) 2 (by rw[G.o];exact AN) v8);obtain⟨a8,n8,p8,rfl,Eg⟩:=ho.var;clear ho hg l7 A'))
      all_goals
       go_wp2
       go_roundg (g3-1)
       case measure=>have:=HJ.o;omega
       case rel=>exact⟨j+1,_,ae (j1 HJ.o),by go_num,ae (by rw[<-xZ.o];exact Rj.o),Rb,X8⟩
     ·have Cv:j=m:=by have:=HJ.o;omega
      subst Cv
      have HT:=ae (show(q8.take j).map (fun c=>c.2.2.2)=BF V L by
       rw[List.take_of_length_le (by rw[HM.o];exact Nat.le_refl _),Pd.o];rfl)
      rw[HT.o]at J;have Md:=ae (iY J.o.c.uZ);have Rn:=ae (J.o);have Dj:(w.heap.size+1)<W.heap.size:=by rw[G.o];omega
      have wi:=ae (fun(w':World) (hx:Ext W w')=>(hx.block _ Dj).trans K1.o);clear wU;cases RT:xC (BF V L)
      ·have B2:=ae (show wu (q:Int) V L=false by rw[UI.o,RT]);rw[RT]at Md;clear RT;have wU:=J.o.c2;go_wp2_with fail;refine Md.o.mono ?_;rintro e w4 ⟨rfl,I⟩;have xA:=vz.ym (wi.o w4 (E.o.trans I));have xm:=vz.yk (wi.o w4 (E.o.trans I));have yI:=vz.yj (wi.o w4 (E.o.trans I));have CT:=vz.y8 (wi.o w4 (E.o.trans I));have XF:=ae (uV.o.trans (E.o.trans I));clear I;go_wp2_with fail;refine bodyPost_ret (v:=.tuple #[.agg #[.slice none 0 0,.slice none 0 0,.slice none 0 0],.bool false]) (by simp[results,Tryz.results54,go_sem,xA,xm,yI]) rfl ⟨⟨_,_,_,[],by rw[B2.o],vv.nil _ _,?_,?_,?_,Be.nil _⟩,?_⟩
       ·unfold C5;rw[B2.o,if_neg e8];exact bu.nil _ _
       ·unfold C4;rw[B2.o,if_neg e8];exact o5.nil _ _
       ·unfold C3;rw[B2.o,if_neg e8];exact l9.nil _ _
       ·exact((XF.o.store 0 e7 _).store 1 e7 _).store 2 e7 _
      ·have Ge:=ae (show wu (q:Int) V L=true by rw[UI.o,RT]);rw[RT]at Md;clear RT;have wU:=J.o.c2;go_wp2_with fail;refine Md.o.mono ?_;rintro e w4 ⟨rfl,I⟩;have xA:=vz.ym (wi.o w4 (E.o.trans I));have xm:=vz.yk (wi.o w4 (E.o.trans I));have yI:=vz.yj (wi.o w4 (E.o.trans I));have CT:=vz.y8 (wi.o w4 (E.o.trans I));have NZ:=ae (J.o.ext I);have Ca:=NZ.o.c0;have D1:=NZ.o.c1;have Nk:=NZ.o.c2;have hgl4:=NZ.o.lt;have XF:=ae (uV.o.trans (E.o.trans I));clear I wU;go_wp2_with fail;refine bodyPost_ret (v:=.tuple #[.agg #[.slice aA nA cA,.slice aB nB cB,.slice aC nC cC],.bool true]) (by simp[results,Tryz.results54,go_sem,xA,xm,yI]) rfl ⟨⟨_,_,_,vs,by rw[Ge.o],?_,?_,?_,?_,NZ.o.off⟩,?_⟩
       ·exact(((((vv.on NZ.o.a).set e8 _).set e8 _).set e8 _).here).mono' e7
       ·unfold C5;rw[Ge.o,if_pos rfl,Int.toNat_natCast,<-HAA.o];exact(((((bu.on NZ.o.rows).set e8 _).set e8 _).set e8 _).here).mono' e7
       ·unfold C4;rw[Ge.o,if_pos rfl,Int.toNat_natCast,<-AF.o];exact(((((o5.on NZ.o.b).set e8 _).set e8 _).set e8 _).here).mono e7
       ·unfold C3;rw[Ge.o,if_pos rfl];exact(((((l9.on NZ.o.c).set e8 _).set e8 _).set e8 _).here).mono e7
       ·exact((XF.o.store 0 e7 _).store 1 e7 _).store 2 e7 _
end Go.Proofs.YtdadoignenffgaaGreatDoor
