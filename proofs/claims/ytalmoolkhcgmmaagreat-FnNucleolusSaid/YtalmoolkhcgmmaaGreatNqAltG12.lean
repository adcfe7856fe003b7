import Derived.Test.YtalmoolkhcgmmaaGreatNqAltG11
import Derived.Test.YtalmoolkhcgmmaaGreatNqAltG10
set_option linter.unusedVariables false
set_option linter.unusedSimpArgs false
namespace Go.Proofs.YtalmoolkhcgmmaaGreat
variable{a b:j8}{w:World}{n yF:Nat}{C:j9}
set_option maxHeartbeats 16000000
set_option maxRecDepth 100000
open Go.RowKit
theorem gM{v:Value}{a b:Bool}(h:a=b):Ending.returned (.tuple #[v,.bool a])=.returned (.tuple #[v,.bool b]):=by rw[h]
theorem l8.Gl(w:World)(base n:Nat)(hn:n=w.heap.size)(hb:base<=w.heap.size):l8 (w.alloc (.cells #[] 46)) base (.slice (some ⟨n,0,none⟩) 0 0) []:=by subst hn;exact l8.made w base hb
theorem nj{p:Int}{cap:Nat}{V:j9}(h:Ints w a n cap V){m:Nat}{X:j6}(hx:r8 w b m yF X)(hg:aZ p V=true){s:Nat}(hs:s<n):
 Calls Tryz.prog 71 #[pair p a n cap,.slice b m yF,.int .i64 (s:Int)] w fun e w'=>e=.returned (BA ((yU V X s).getD (0,0),(yU V X s).isSome))/\Ext w w':=by
 obtain⟨W,hW⟩:=b8 ((w.alloc (.cells #[.int .i64 p,.slice a n cap] 26)).alloc (.cells #[.int .i64 0,.int .i64 0] 46));have yI:=ae (show W.heap.size=w.heap.size+2 by rw[hW];simp);have hX:Ext w W:=by rw[hW];exact(Ext.alloc _ _).trans (Ext.alloc _ _)
 have xU:=ae (show W.heap[w.heap.size+1]?=some (.cells #[.int .i64 0,.int .i64 0] 46 (0,0))by rw[hW];exact ak _ _ _ e7);have Ev:=ae (show W.cell? ⟨w.heap.size,0,none⟩=some (.int .i64 p)by rw[hW];exact Ext.k6 (Ext.alloc _ _) e7);have FQ:=ae (show W.cell? ⟨w.heap.size,1,none⟩=some (.slice a n cap)by rw[hW];exact Ext.k6 (Ext.alloc _ _) e7);have HI:=ae (h.ext hX);have HR:=ae (hx.ext hX);have HX:=ae hX;have HV:=ae (ep (p:=p) HI.o);rw[hg,hW]at HV;have HL:=ae h.hlen;obtain⟨q,rfl,Au,Dq,TD,_,I5⟩:=aW hg;have hc:=cu q Dq;have CH:n<=32:=by have:=HL.o;omega
 have Ha:=ae (fun i=>dM I5 i);have o3:=h.o3;have l9:=h.l9;have xR:wJ (s:Int) 0 ((n:Int)-1)=true:=by unfold wJ;simp;omega
 clear h hx hX hg TD I5;go_enter Tryz.func71,Tryz.ntmps71
 go_wp2_with fail;refine HV.o.mono ?_;rw[<-hW];rintro e w1 ⟨rfl,wO⟩;have X1:=ae wO;have b0:=wO.k6 Ev.o;have b1:=wO.k6 FQ.o;clear wO hW HV;go_wp2_with fail;refine(bG _ _ _ _).mono ?_;rw[xR];rintro e w2 ⟨rfl,rfl⟩;clear xR;go_wp2_with fail;refine(px (HR.o.ext X1.o) s b9).mono ?_;obtain⟨r1,I,one,hr⟩:∃r1 I one,((bH X s).getD (0,0),(bH X s).isSome)=(((r1,I):k5),one):=⟨_,_,_,rfl⟩;rw[hr];have Iw:=ae hr;rintro e w3 ⟨rfl,U⟩;obtain⟨G,B7⟩:=b8 (w3.alloc (.cells #[.int .i64 r1,.int .i64 I] 46));have R:Ext w3 G:=by rw[B7];exact Ext.alloc _ _
 have X4:=ae ((X1.o.trans U).trans R);have c0:=(U.trans R).k6 b0;have c1:=(U.trans R).k6 b1;have d0:G.cell? ⟨w3.heap.size,0,none⟩=some (.int .i64 r1):=by rw[B7];simp
 have d1:G.cell? ⟨w3.heap.size,1,none⟩=some (.int .i64 I):=by rw[B7];simp
 obtain⟨u,Z,rfl,DB⟩:=(HI.o.ext X4.o).at hs;obtain⟨v,hv⟩:=b8 (V[s]?.getD 0);rw[<-hv]at DB;obtain⟨p2,O,ok,xk⟩:∃p2 O ok,xy (v,1) (r1,I)=((p2,O),ok):=⟨_,_,_,rfl⟩;have yt:=ae xk;have It:=ae hv;clear hr U R b0 b1 hv xk;go_upto_region 4 with fail;rw[<-B7];clear B7;go_upto_region 4 with fail
 go_cut [10,11] (fun sx so wx=>∃g:Nat,sx=.pointer (some ⟨g,0,none⟩)/\so=.bool ok/\b7 (aj G wx g p2 O))
 case first =>
  have k7:Ext G G.drew:=Ext.drew G;have xI:Ext G (G.alloc (.cells #[.int .i64 0,.int .i64 0] 46)).drew:=(Ext.alloc _ _).trans (Ext.drew _);have k8:=ae (fun(w':World) (h:Ext G w')=>(⟨h.k6 c1,h.k6 DB,h.k6 d0,h.k6 d1,h⟩:w'.cell? ⟨w.heap.size,1,none⟩=some (.slice (some ⟨u,Z,none⟩) n cap)/\w'.cell? ⟨u,Z+s,none⟩=some (.int .i64 v)/\w'.cell? ⟨w3.heap.size,0,none⟩=some (.int .i64 r1)/\w'.cell? ⟨w3.heap.size,1,none⟩=some (.int .i64 I)/\Ext G w'))
  go_region_held3 (fun w'=>w'.cell? ⟨w.heap.size,1,none⟩=some (.slice (some ⟨u,Z,none⟩) n cap)/\w'.cell? ⟨u,Z+s,none⟩=some (.int .i64 v)/\w'.cell? ⟨w3.heap.size,0,none⟩=some (.int .i64 r1)/\w'.cell? ⟨w3.heap.size,1,none⟩=some (.int .i64 I)/\Ext G w')
   (first
     | with_reducible exact k8.o _ k7
     | with_reducible exact k8.o _ xI
     | with_reducible exact k8.o _ ((k7.setCell (by first|(simp;done)|(simp;omega)) _).setCell (by first|(simp;done)|(simp;omega)) _)
     | with_reducible exact k8.o _ (k7.trans (Ext.alloc _ _))
     | with_reducible exact k8.o _ (r9.put _ _).ext)
   (first
     | (go_at_call 32
        (with_reducible refine(cl _ _).mono ?_)
        rintro e w5 ⟨rfl,J⟩
        first|(with_reducible have r9:=aj.grow r9 J)|(with_reducible have r9:=aj.xu J)|(with_reducible have r9:=aj.xA k7 J)|skip
        first|(have BQ:=r9.c0;have BP:=r9.c1;have C3:=r9.free)|skip
        have k7:Ext G w5:=by first|with_reducible exact k7.trans J|with_reducible exact xI.trans J|with_reducible exact(k7.trans (Ext.alloc _ _)).trans J
        have zr:=k7.size)
     | (go_at_call 120
        (with_reducible refine(lY _ _ _ _ _).mono ?_)
        rw[yt.o];rintro e w6 ⟨rfl,K⟩
        first|(with_reducible have r9:=aj.grow r9 K)|(with_reducible have r9:=aj.xu K)|(with_reducible have r9:=aj.xA k7 K)|skip
        first|(have BQ:=r9.c0;have BP:=r9.c1;have C3:=r9.free)|skip
        have k7:Ext G w6:=by first|with_reducible exact k7.trans K|with_reducible exact xI.trans K|with_reducible exact(k7.trans (Ext.alloc _ _)).trans K
        have zr:=k7.size)
     | fail)
  all_goals(go_wp2_with fail;go_meet;first|exact⟨_,rfl,rfl,ae (r9.put _ _)⟩|exact⟨_,rfl,rfl,ae (aj.new k7 _ _)⟩|exact⟨_,rfl,rfl,ae (aj.new' k7 _ _ e7)⟩)
 obtain⟨g,rfl,rfl,HB⟩:=hcut;have g0:=HB.o.c0;have g1:=HB.o.c1;have XC:=ae (X4.o.trans HB.o.ext);have hr:=ah ((XC.o.block _ (j4 yI.o)).trans xU.o);obtain⟨yN,yC,CZ⟩:=hr;have XF:=ae (HX.o.trans XC.o);cases one
 ·have HN:=ae (show yU V X s=none by
   have:=Iw.o;simp only[Prod.mk.injEq]at this;unfold yU;cases DC:bH X s with
   | none=>rfl
   | some r=>rw[DC]at this;simp at this)
  go_wp2_with fail;refine bodyPost_ret (v:=.tuple #[.agg #[.int .i64 0,.int .i64 0],.bool false]) (by simp[results,Tryz.results71,go_sem,yN,yC]) rfl ⟨by rw[HN.o];rfl,(XF.o.store 0 b9 _).store 1 b9 _⟩
 ·have HN:=ae (show yU V X s=if ok=true then some (p2,O) else none by
   have:=Iw.o;simp only[Prod.mk.injEq]at this;unfold yU;cases DC:bH X s with
   | none=>rw[DC]at this;simp at this
   | some r =>
     rw[DC]at this;simp only[Option.getD_some]at this;rw[this.1]
     show Dh (V[s]?.getD 0) (r1,I)=_;unfold Dh
     rw[<-It.o,yt.o])
  cases ok
  ·go_wp2_with fail;refine bodyPost_ret (v:=.tuple #[.agg #[.int .i64 0,.int .i64 0],.bool false]) (by simp[results,Tryz.results71,go_sem,yN,yC]) rfl ⟨by rw[HN.o];rfl,(XF.o.store 0 b9 _).store 1 b9 _⟩
  ·go_wp2_with fail;refine bodyPost_ret (v:=.tuple #[.agg #[.int .i64 p2,.int .i64 O],.bool true]) (by simp[results,Tryz.results71,go_sem,yN,yC]) rfl ⟨by rw[HN.o];rfl,(XF.o.store 0 b9 _).store 1 b9 _⟩
theorem rx{p:Int}{cap:Nat}{V:j9}(h:Ints w a n cap V){m:Nat}{X:j6}(hx:r8 w b m yF X):
 Calls Tryz.prog 27 #[pair p a n cap,.slice b m yF] w fun e w'=>(∃v,e=.returned (.tuple #[v,.bool (yj p V X).isSome])/\l8 w' w.heap.size v ((yj p V X).getD []))/\Ext w w':=by
 have HX:=ae (Ext.alloc w (.cells #[.int .i64 p,.slice a n cap] 26));have HI:=ae (h.ext HX.o);have HR:=ae (hx.ext HX.o);have HL:=ae h.hlen;have o3:=h.o3;have l9:=h.l9;have HP:=ae (fun(w':World) (U:Ext (w.alloc (.cells #[.int .i64 p,.slice a n cap] 26)) w')=>nl (p:=p) (HI.o.ext U) (HR.o.ext U));have k0:(w.alloc (.cells #[.int .i64 p,.slice a n cap] 26)).cell? ⟨w.heap.size,0,none⟩=some (.int .i64 p):=by simp
 have k1:(w.alloc (.cells #[.int .i64 p,.slice a n cap] 26)).cell? ⟨w.heap.size,1,none⟩=some (.slice a n cap):=by simp
 obtain⟨W,hW⟩:=b8 (w.alloc (.cells #[.int .i64 p,.slice a n cap] 26));rw[<-hW]at HX HI HR HP k0 k1;have yI:=ae (show W.heap.size=w.heap.size+1 by rw[hW];simp);have V0:=(Ext.alloc W (.cells #[] 46)).k6 k0;have K:=(Ext.alloc W (.cells #[] 46)).k6 k1;clear h hx;go_enter Tryz.func27,Tryz.ntmps27
 go_upto_region 2 with fail;rw[<-hW];clear hW;go_wp2_with fail;refine(HP.o _ (Ext.alloc W (.cells #[] 46))).mono ?_;rintro e w1 ⟨rfl,wO⟩;have X1:=ae ((Ext.alloc W (.cells #[] 46)).trans wO);have xC:=ae (show l8 w1 W.heap.size (.slice (some ⟨w.heap.size+1,0,none⟩) 0 0) []from yI.o▸(l8.made W W.heap.size (Nat.le_refl _)).ext wO);clear wO V0 K;cases hp:ye p V X
 ·have HN:=ae (pS hp);clear hp;go_wp2_with fail
  go_ret2
  exact⟨⟨_,gM (by rw[HN.o];rfl),by rw[HN.o];exact xC.o.mono (by rw[yI.o];omega)⟩,HX.o.trans X1.o⟩
 have HA:=ae (ji hp);have HG:=ae (dl hp);obtain⟨q,u,Au,Dq,TD,_,I5⟩:=aW HG.o;have hc:=cu q Dq;have CH:n<=32:=by have:=HL.o;omega
 have H6:2<=n:=by
  have:∀q:Fin 6,1<=q.val->2<=cN q.val:=by decide
  have:=this ⟨q,by omega⟩ Au;simp only at this;have:=HL.o;omega
 rw[HL.o]at HA;clear hp u TD I5;go_wp2_with fail
 go_loopg [6,7] (n-2) (fun gk oo ii wr=>∃(k s:Nat) (a1:j8) (n1 p1:Nat) (r:j6),b7 (gk+k=n-2)/\b7 (s=1+k)/\oo=.slice a1 n1 p1/\ii=.int .i64 (s:Int)/\b7 (runT (fun k=>yU V X (1+k)) k=some r)/\b7 (l8 wr W.heap.size (.slice a1 n1 p1) r)/\b7 (Ext W wr))
 case atStart=>exact⟨0,1,_,_,_,[],ae b9,ae rfl,rfl,rfl,ae rfl,xC,X1⟩
 case round =>
  obtain⟨g1,r7⟩:=b8 gk;subst r7;obtain⟨wr,Eg⟩:=b8 wr;subst Eg;obtain⟨k,s,a1,n1,p1,r,O,HS,rfl,rfl,Bv,HO,G⟩:=hrel;have c0:=G.o.k6 k0;have c1:=G.o.k6 k1;have hsz:=G.o.size;have Cu:1<=s:=by have:=HS.o;omega
  by_cases hlt:s+1<n
  ·have HE:=ae (nj (p:=p) (HI.o.ext G.o) (HR.o.ext G.o) HG.o (s:=s) b9);obtain⟨x,y,ok,J⟩:∃x y ok,((yU V X s).getD (0,0),(yU V X s).isSome)=(((x,y):k5),ok):=⟨_,_,_,rfl⟩;rw[J]at HE;have Z:=ae J;clear J;go_wp2_with fail;refine HE.o.mono ?_;rintro e w3 ⟨rfl,I⟩;have X4:=ae ((G.o.trans I).trans (Ext.alloc w3 (.cells #[.int .i64 x,.int .i64 y] 46)));have R:=ae ((HO.o.ext I).ext (Ext.alloc w3 (.cells #[.int .i64 x,.int .i64 y] 46)));have CY:=(G.o.trans I).size;clear I;cases ok
   ·have HN:=ae (show yj p V X=none by
     rw[HA.o];unfold Di;refine fj Bv.o ?_ (show k<n-2 by have:=HS.o;omega);rw[<-HS.o];have:=Z.o;simp only[Prod.mk.injEq]at this;cases hq:yU V X s with
     | none=>rfl
     | some z=>rw[hq]at this;simp at this)
    go_wp2_with fail
    go_ret2
    exact⟨⟨_,gM (by rw[HN.o];rfl),by rw[HN.o];exact l8.Gl _ _ _ e7 (by have:=X4.o.size;have:=HX.o.size;omega)⟩,(HX.o.trans X4.o).trans (Ext.alloc _ _)⟩
   ·have Eu:=ae (dB (x:=(x,y)) Bv.o (by
     rw[<-HS.o];have:=Z.o;simp only[Prod.mk.injEq]at this;cases hq:yU V X s with
     | none=>rw[hq]at this;simp at this
     | some z=>rw[hq]at this;simp at this;rw[this]))
    have zy:=ae (cU Bv.o);have hk32:k<=32:=by have:=HS.o;omega
    go_wp2_with (first
     | (at_builtin;refine aG rfl _ _ rfl W.heap.size (.slice a1 n1 p1) _ rfl (R.o.ext (Ext.alloc _ _)) _ 1 _ [(x,y)] rfl (r8.one' _ _ _ _ _ e7) (by rw[zy.o];omega) (by simp;omega) ?_;intro v2 w5 ho hg l7;obtain⟨a2,n2,c2,rfl,Fa⟩:=ho.var;have xL:=ae ho;have X5:=ae (al (X4.o.trans (Ext.alloc _ _)) hg (fun j hj=>(R.o.lt j hj).1));clear ho hg l7))
    go_roundg (g1-1)
    case measure=>have:=O.o;have:=HS.o;omega
    case rel=>exact⟨k+1,s+1,a2,n2,c2,_,ae (by have:=O.o;have:=HS.o;omega),ae (j4 HS.o),rfl,by go_num,Eu,xL,X5⟩
  ·have k7:k=n-2:=by have:=O.o;have:=HS.o;omega
   subst k7;go_wp2_with fail
   go_ret2
   exact⟨⟨_,gM (by rw[HA.o];unfold Di;rw[Bv.o];rfl),by rw[HA.o];unfold Di;rw[Bv.o];exact HO.o.mono (by rw[yI.o];omega)⟩,HX.o.trans G.o⟩
theorem lk{k1 k2:Int}{cap n' I:Nat}{A B:j6}(h:r8 w a n cap A)(h':r8 w b n' I B)(hbig:n<=1048576):
 Calls Tryz.prog 168 #[.slice a n cap,xO k1 k2,.slice b n' I] w fun e w'=>(∃v,e=.returned (.tuple #[v,.bool (zo A (k1,k2) B).isSome])/\l8 w' w.heap.size v ((zo A (k1,k2) B).getD []))/\Ext w w':=by
 have HL:=ae h.hlen;have Ey:=ae h'.hlen;have l9:=h.l9;have o3:=h.o3;have Mz:=h'.l9;have MS:=h'.o3;have HA:=ae h;have HB':=ae h';have HX:=ae (Ext.alloc w (.cells #[.int .i64 k1,.int .i64 k2] 46));clear h h';by_cases hne:n=n'
 ·subst hne;have HS:=ae (show zo A (k1,k2) B=runT (C6 A (k1,k2) B) n by unfold zo;rw[HL.o,Ey.o,if_pos rfl]);have HO:=ae (l8.made (w.alloc (.cells #[.int .i64 k1,.int .i64 k2] 46)) (w.heap.size+1) e7);go_enter Tryz.func168,Tryz.ntmps168
  go_wp2_with fail
  go_loopg [8,22] n (fun gk o i wr=>∃(k:Nat) (a1:j8) (n1 p1:Nat) (r:j6),b7 (gk+k=n)/\i=.int .i64 (k:Int)/\o=.slice a1 n1 p1/\b7 (runT (C6 A (k1,k2) B) k=some r)/\b7 (l8 wr (w.heap.size+1) (.slice a1 n1 p1) r)/\b7 (Ext (w.alloc (.cells #[.int .i64 k1,.int .i64 k2] 46)) wr))
  case atStart=>exact⟨0,_,_,_,[],ae b9,rfl,rfl,ae rfl,ae (by simpa using HO.o),ae (Ext.alloc _ _)⟩
  case round =>
   obtain⟨k,a1,n1,p1,r,HK,rfl,rfl,HR,xC,xz⟩:=hrel;have Db:=xz.o.size;rw[World.size_alloc]at Db;by_cases hlt:k<n
   ·have Gy:wr.cell? ⟨w.heap.size,0,none⟩=some (.int .i64 k1):=xz.o.k6 e7;have Gx:wr.cell? ⟨w.heap.size,1,none⟩=some (.int .i64 k2):=xz.o.k6 e7;obtain⟨ab,Ag,ax,ay,ha,I4,Bm,Bl⟩:=((HA.o.ext HX.o).ext xz.o).at hlt;obtain⟨Z,AO,W,G,hb,zH,Ed,Ec⟩:=((HB'.o.ext HX.o).ext xz.o).at hlt;subst ha hb;have Zp:=ae I4;have yu:=ae zH;obtain⟨p,q,one,hm⟩:∃p q ok,mulR (k1,k2) (W,G)=((p,q),ok):=⟨_,_,_,rfl⟩;have HM:=ae hm;obtain⟨p2,U,two,D4⟩:∃u v ok,xP (ax,ay) (p,q)=((u,v),ok):=⟨_,_,_,rfl⟩;have Ax:=ae D4;clear I4 zH hm D4;go_upto_region 7 with fail
    go_cut [10,11] (fun sx so wx=>∃g:Nat,sx=.pointer (some ⟨g,0,none⟩)/\so=.bool one/\b7 (aj wr wx g p q))
    case first =>
     have k7:Ext wr wr.drew:=Ext.drew wr;have R:Ext wr (wr.alloc (.cells #[.int .i64 0,.int .i64 0] 46)).drew:=(Ext.alloc _ _).trans (Ext.drew _);have k8:=ae (fun(w':World) (h:Ext wr w')=>(⟨h.k6 Gy,h.k6 Gx,h.k6 Ed,h.k6 Ec,h⟩:w'.cell? ⟨w.heap.size,0,none⟩=some (.int .i64 k1)/\w'.cell? ⟨w.heap.size,1,none⟩=some (.int .i64 k2)/\w'.cell? ⟨Z,AO+k*2,none⟩=some (.int .i64 W)/\w'.cell? ⟨Z,AO+k*2+1,none⟩=some (.int .i64 G)/\Ext wr w'))
     go_region_held3 (fun w'=>w'.cell? ⟨w.heap.size,0,none⟩=some (.int .i64 k1)/\w'.cell? ⟨w.heap.size,1,none⟩=some (.int .i64 k2)/\w'.cell? ⟨Z,AO+k*2,none⟩=some (.int .i64 W)/\w'.cell? ⟨Z,AO+k*2+1,none⟩=some (.int .i64 G)/\Ext wr w')
      (first
        | with_reducible exact k8.o _ k7
        | with_reducible exact k8.o _ R
        | with_reducible exact k8.o _ ((k7.setCell (by first|(simp;done)|(simp;omega)) _).setCell (by first|(simp;done)|(simp;omega)) _)
        | with_reducible exact k8.o _ (k7.trans (Ext.alloc _ _))
        | with_reducible exact k8.o _ (r9.put _ _).ext)
      (first
        | (go_at_call 153
           (with_reducible refine(qA k1 k2 W G _).mono ?_)
           rw[HM.o];rintro e w3 ⟨rfl,O⟩
           first|(with_reducible have r9:=aj.grow r9 O)|(with_reducible have r9:=aj.xu O)|(with_reducible have r9:=aj.xA k7 O)|skip
           first|(have BQ:=r9.c0;have BP:=r9.c1;have C3:=r9.free)|skip
           have k7:Ext wr w3:=by first|with_reducible exact k7.trans O|with_reducible exact R.trans O|with_reducible exact(k7.trans (Ext.alloc _ _)).trans O
           have zr:=k7.size)
        | fail)
     all_goals(go_wp2_with fail;go_meet;first|exact⟨_,rfl,rfl,ae (r9.put _ _)⟩|exact⟨_,rfl,rfl,ae (aj.new k7 _ _)⟩|exact⟨_,rfl,rfl,ae (aj.new' k7 _ _ e7)⟩)
    obtain⟨g,rfl,rfl,K⟩:=hcut;have g0:=K.o.c0;have g1:=K.o.c1;replace Bm:=K.o.ext.k6 Bm;replace Bl:=K.o.ext.k6 Bl;clear Gy Gx Ed Ec;go_upto_region 8 with fail
    go_cut [12,13] (fun sx so wx=>∃g2:Nat,sx=.pointer (some ⟨g2,0,none⟩)/\so=.bool two/\b7 (aj wc wx g2 p2 U))
    case first =>
     have k7:Ext wc wc.drew:=Ext.drew wc;have R:Ext wc (wc.alloc (.cells #[.int .i64 0,.int .i64 0] 46)).drew:=(Ext.alloc _ _).trans (Ext.drew _);have k8:=ae (fun(w':World) (h:Ext wc w')=>(⟨h.k6 Bm,h.k6 Bl,h.k6 g0,h.k6 g1,h⟩:w'.cell? ⟨ab,Ag+k*2,none⟩=some (.int .i64 ax)/\w'.cell? ⟨ab,Ag+k*2+1,none⟩=some (.int .i64 ay)/\w'.cell? ⟨g,0,none⟩=some (.int .i64 p)/\w'.cell? ⟨g,1,none⟩=some (.int .i64 q)/\Ext wc w'))
     go_region_held3 (fun w'=>w'.cell? ⟨ab,Ag+k*2,none⟩=some (.int .i64 ax)/\w'.cell? ⟨ab,Ag+k*2+1,none⟩=some (.int .i64 ay)/\w'.cell? ⟨g,0,none⟩=some (.int .i64 p)/\w'.cell? ⟨g,1,none⟩=some (.int .i64 q)/\Ext wc w')
      (first
        | with_reducible exact k8.o _ k7
        | with_reducible exact k8.o _ R
        | with_reducible exact k8.o _ ((k7.setCell (by first|(simp;done)|(simp;omega)) _).setCell (by first|(simp;done)|(simp;omega)) _)
        | with_reducible exact k8.o _ (k7.trans (Ext.alloc _ _))
        | with_reducible exact k8.o _ (r9.put _ _).ext)
      (first
        | (go_at_call 144
           (with_reducible refine(lK ax ay p q _).mono ?_)
           rw[Ax.o];rintro e w4 ⟨rfl,J⟩
           first|(with_reducible have r9:=aj.grow r9 J)|(with_reducible have r9:=aj.xu J)|(with_reducible have r9:=aj.xA k7 J)|skip
           first|(have BQ:=r9.c0;have BP:=r9.c1;have C3:=r9.free)|skip
           have k7:Ext wc w4:=by first|with_reducible exact k7.trans J|with_reducible exact R.trans J|with_reducible exact(k7.trans (Ext.alloc _ _)).trans J
           have zr:=k7.size)
        | fail)
     all_goals(go_wp2_with fail;go_meet;first|exact⟨_,rfl,rfl,ae (r9.put _ _)⟩|exact⟨_,rfl,rfl,ae (aj.new k7 _ _)⟩|exact⟨_,rfl,rfl,ae (aj.new' k7 _ _ e7)⟩)
    obtain⟨g2,rfl,rfl,zV⟩:=hcut;have X2:=ae ((xz.o.trans K.o.ext).trans zV.o.ext);have yE:=ae ((xC.o.ext K.o.ext).ext zV.o.ext);have h0:=zV.o.c0;have h1:=zV.o.c1;have HF:=ae (show C6 A (k1,k2) B k=if(one&&two)=true then some (p2,U) else none by unfold C6;rw[Zp.o,yu.o,HM.o];simp only;rw[Ax.o];simp only[Bool.and_eq_true]);clear Bm Bl g0 g1;cases Ee:(one&&two)
    ·have HN:=ae (show runT (C6 A (k1,k2) B) n=none from fj HR.o (by rw[HF.o,Ee];rfl) hlt);cases one
     case' true=>(have h2:two=false:=by simpa using Ee);subst h2
     all_goals
      clear Ee;go_wp2_with fail;refine bodyPost_ret (v:=.tuple #[.slice none 0 0,.bool false]) (by simp[results,Tryz.results168,go_sem]) rfl ⟨⟨.slice none 0 0,by rw[HS.o,HN.o];rfl,by rw[HS.o,HN.o];exact l8.nil _ _⟩,HX.o.trans X2.o⟩
    ·obtain⟨rfl,rfl⟩:one=true/\two=true:=by simpa using Ee
     have Eu:=ae (dB (x:=(p2,U)) HR.o (by rw[HF.o];rfl));have zy:=ae (cU HR.o);have EO:=X2.o.size;rw[World.size_alloc]at EO;clear Ee
     go_wp2_with (first
      | (at_builtin;refine aG rfl _ _ rfl (w.heap.size+1) (.slice a1 n1 p1) _ rfl (yE.o.ext (Ext.alloc _ _)) _ 1 _ [(p2,U)] rfl (r8.one' _ _ _ _ _ e7) (by rw[zy.o];omega) (by simp;omega) ?_;intro v2 w4 ho hg l7;obtain⟨a2,n2,c2,rfl,Fa⟩:=ho.var;have yW:=ae ho;have X5:=ae (al (X2.o.trans (Ext.alloc _ _)) hg (fun j hj=>by have:=(yE.o.lt j hj).1;simpa using this));clear ho hg l7))
     go_roundg (gk-1)
     case measure=>have:=HK.o;omega
     case rel=>exact⟨k+1,a2,n2,c2,_,ae (j4 HK.o),by go_num,rfl,Eu,yW,X5⟩
   ·have xQ:k=n:=by have:=HK.o;omega
    subst xQ;go_wp2_with fail;refine bodyPost_ret (v:=.tuple #[.slice a1 n1 p1,.bool true]) (by simp[results,Tryz.results168,go_sem]) rfl ⟨⟨.slice a1 n1 p1,by rw[HS.o,HR.o];rfl,by rw[HS.o,HR.o];exact xC.o.mono (Nat.le_succ _)⟩,HX.o.trans xz.o⟩
 ·have HN:=ae (show zo A (k1,k2) B=none by unfold zo;rw[HL.o,Ey.o,if_neg hne]);go_enter Tryz.func168,Tryz.ntmps168
  go_wp2_with fail;refine bodyPost_ret (v:=.tuple #[.slice none 0 0,.bool false]) (by simp[results,Tryz.results168,go_sem]) rfl ⟨⟨.slice none 0 0,by rw[HN.o];rfl,by rw[HN.o];exact l8.nil _ _⟩,HX.o⟩
theorem lA{k:Nat}(h:k<C.length):aw (C.take k)++[(C[k]?.getD 0,1)]=aw (C.take (k+1)):=by
 rw[cW h];simp[aw]
def dU(C:j9):j6:=if CQ C=true then aw C else []
theorem qx{cap:Nat}(h:Ints w a n cap C)(hbig:n<=1048576):
 Calls Tryz.prog 147 #[.slice a n cap] w fun e w'=>(∃v,e=.returned (.tuple #[v,.bool (CQ C)])/\l8 w' w.heap.size v (dU C))/\Ext w w':=by
 have HL:=ae h.hlen;have l9:=h.l9;have o3:=h.o3;have HC:=ae h;clear h;have HO:=ae (l8.made w w.heap.size (Nat.le_refl _));go_enter Tryz.func147,Tryz.ntmps147
 go_wp2_with fail
 go_loopg [4,10] n (fun gk o i wr=>∃(k:Nat) (a1:j8) (n1 p1:Nat),b7 (gk+k=n)/\i=.int .i64 (k:Int)/\o=.slice a1 n1 p1/\b7 (CQ (C.take k)=true)/\b7 (l8 wr w.heap.size (.slice a1 n1 p1) (aw (C.take k)))/\b7 (Ext w wr))
 case atStart=>exact⟨0,_,_,_,ae b9,rfl,rfl,ae rfl,HO,ae (Ext.alloc _ _)⟩
 case round =>
  obtain⟨k,a1,n1,p1,K,rfl,rfl,HF,xC,xz⟩:=hrel;by_cases hlt:k<n
  ·obtain⟨b,off,ha,hc⟩:=(HC.o.ext xz.o).at hlt;subst ha;obtain⟨c,G⟩:=b8 (C[k]?.getD 0);rw[<-G]at hc;have J:=ae G;have Db:=xz.o.size;clear G;have zD:=ae (show k<C.length by have:=HL.o;omega);cases xR:wJ c (-1000000000) 1000000000
   ·have HN:=ae (show CQ C=false by
     rw[<-Bool.not_eq_true];intro hh;have:=sE (k:=k) hh zD.o
     rw[<-J.o,xR]at this;cases this)
    have HI:=ae (aK c (-1000000000) 1000000000 wr);rw[xR]at HI;clear xR;go_wp2_with fail;refine HI.o.mono ?_;rintro e w2 ⟨rfl,rfl⟩;go_wp2_with fail;refine bodyPost_ret (v:=.tuple #[.slice none 0 0,.bool false]) (by simp[results,Tryz.results147,go_sem]) rfl ⟨⟨.slice none 0 0,by rw[HN.o],by unfold dU;rw[HN.o];exact l8.nil _ _⟩,xz.o⟩
   ·have UK:=ae (show CQ (C.take (k+1))=true by
     unfold CQ;rw[cW zD.o,List.all_append];have:=HF.o;unfold CQ at this;rw[this,<-J.o]
     simp only[List.all_cons,List.all_nil,xR,Bool.and_self])
    have HI:=ae (aK c (-1000000000) 1000000000 wr);rw[xR]at HI;clear xR;go_wp2_with fail;refine HI.o.mono ?_;rintro e w2 ⟨rfl,rfl⟩;have Z:=ae (show(aw (C.take k)).length=k by rw[cz,List.length_take];have:=zD.o;omega)
    go_wp2_with (first
     | (go_at_call 18;refine(cG c _).mono ?_;rintro e w3 ⟨rfl,I⟩;have U:=ae I;have O:=ae (xC.o.ext I);have D3:=I.size;clear I)
     | (at_builtin;refine aG rfl _ _ rfl w.heap.size (.slice a1 n1 p1) _ rfl (O.o.ext (Ext.alloc _ _)) _ 1 _ [(c,1)] rfl (r8.one' _ _ _ _ _ e7) (by rw[Z.o];omega) (by simp;omega) ?_;intro v2 w4 ho hg l7;obtain⟨a2,n2,c2,rfl,Fa⟩:=ho.var;have R:=ae ho;have X4:=ae (al ((xz.o.trans U.o).trans (Ext.alloc _ _)) hg (fun j hj=>(O.o.lt j hj).1));clear ho hg l7))
    go_roundg (gk-1)
    case measure=>have:=K.o;omega
    case rel=>exact⟨k+1,a2,n2,c2,ae (j4 K.o),by go_num,rfl,UK,ae (by have:=R.o;rw[J.o,lA zD.o]at this;exact this),X4⟩
  ·have W:k=n:=by have:=K.o;omega
   subst W;have HT:=ae (show C.take k=C from List.take_of_length_le (by rw[HL.o];exact Nat.le_refl _));go_wp2_with fail;refine bodyPost_ret (v:=.tuple #[.slice a1 n1 p1,.bool true]) (by simp[results,Tryz.results147,go_sem]) rfl ⟨⟨.slice a1 n1 p1,?_,?_⟩,xz.o⟩
   ·have:=HF.o;rw[HT.o]at this;rw[this]
   ·have h1:=HF.o;have h2:=xC.o;rw[HT.o]at h1 h2;unfold dU;rw[if_pos h1];exact h2
theorem gX{cap:Nat}(h:Ints w a n cap C)(G:n<=1048576):
 Calls Tryz.prog 101 #[.slice a n cap] w fun e w'=>(∃v,e=.returned v/\l8 w' w.heap.size v (dU C))/\Ext w w':=by
 have HI:=ae (qx h G);clear h;go_enter Tryz.func101,Tryz.ntmps101
 go_wp2_with fail;refine HI.o.mono ?_;rintro e w1 ⟨⟨v,rfl,ho⟩,hx⟩;have HO:=ae ho;have HX:=ae hx;clear ho hx;go_wp2_with fail;go_ret;exact⟨⟨v,rfl,HO.o⟩,HX.o⟩
end Go.Proofs.YtalmoolkhcgmmaaGreat
