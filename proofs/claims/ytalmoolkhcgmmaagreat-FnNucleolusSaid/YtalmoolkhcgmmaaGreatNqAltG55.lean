import Derived.Test.YtalmoolkhcgmmaaGreatNqAltG8
import Derived.Test.YtalmoolkhcgmmaaGreatNqAltG9
import Derived.Test.YtalmoolkhcgmmaaGreatNqAltG12
import Derived.Deep.Cut
import Derived.Test.YtalmoolkhcgmmaaGreatNqAltG47
import Derived.Test.YtalmoolkhcgmmaaGreatNqAltG37
import Derived.Test.YtalmoolkhcgmmaaGreatNqAltG46
import Derived.Test.YtalmoolkhcgmmaaGreatNqAltG38
set_option linter.unusedVariables false
set_option linter.unusedSimpArgs false
namespace Go.Proofs.YtalmoolkhcgmmaaGreat
variable{w:World}{base n:Nat}{a:j8}
set_option maxHeartbeats 16000000
set_option maxRecDepth 100000
open Go.RowKit
def II(r:Nat)(x:Int)(a:j8)(n c:Nat):Bx:=Bx.nil.upd r (#[.int .i64 x,.slice a n c],26)
theorem l8.calls{w':World}{cb:Nat}{v:Value}{l:j6}(h:l8 w base v l)(hg:w.grownBy w' (some cb))(hb:cb<base):l8 w' base v l :=
 h.keep fun k hk=>dW hg (h.lt k hk).2 (j4 ((h.lt k hk).1))
theorem jJ(r:Nat)(x:Int)(a:j8)(n c:Nat):II r x a n c r=some (#[.int .i64 x,.slice a n c],26):=Bx.same _ _ _
theorem vV{r k:Nat}(h:k≠r)(x:Int)(a:j8)(n c:Nat):II r x a n c k=none:=(Bx.other _ _ h).trans rfl
theorem sy{cb:Nat}(h:Aa w cb){x:Int}{cap:Nat}{V:j9}(hi:Ints w a n cap V):
 Calls Tryz.prog 41 #[.pointer (some ⟨cb,0,none⟩),pair x a n cap] w fun e w'=>(∃(b:j8) (m c:Nat) (L:j6),e=.returned (.slice b m c)/\l8 w' w.heap.size (.slice b m c) L/\m<=5)/\Aa w' cb/\w.grownBy w' (some cb):=by
 have EP:=h.lt;obtain⟨W,hW⟩:=b8 ((w.alloc (.cells #[.int .i64 x,.slice a n cap] 26)).alloc (.cells #[] 46));have wI:Ext w W:=by rw[hW];exact(Ext.alloc _ _).trans (Ext.alloc _ _)
 have Bh:=ae (show Aq w W cb (II w.heap.size x a n cap)from hW▸(((Aq.start h (World.grownBy.refl _ _)).new _ _ (iD _ _ (hO _ _ _))).ext (Ext.alloc _ _)));have Ft:=ae (show l8 W (w.heap.size+1) (.slice (some ⟨w.heap.size+1,0,none⟩) 0 0) []from hW▸l8.Gl _ _ _ e7 e7);have HG:=ae (iG (p:=x) (hi.ext wI));have B0:w.heap.size+2<=W.heap.size:=by rw[hW];simp
 have k0:=Bh.o.c0 (jJ _ _ _ _ _);have k1:=Bh.o.c1 (jJ _ _ _ _ _);clear h hi wI;go_enter Tryz.func41,Tryz.ntmps41
 go_wp2_with fail;rw[<-hW];clear hW;go_wp2_with fail;refine HG.o.mono ?_;rintro e w1 ⟨rfl,hx⟩;obtain⟨r0,yN⟩:=b8 (bD x V);rw[<-yN];have R:=ae (Bh.o.ext hx);have xC:=ae (Ft.o.ext hx);have Cu:=Nat.le_trans B0 hx.size;clear yN hx HG Bh Ft k0 k1 B0;go_wp2_with fail
 go_loopg [5,6,7] 5 (fun gk oo rr kk wr=>∃(k:Nat) (a1:j8) (n1 c1:Nat) (L:j6) (r:Int),b7 (gk+k=5)/\oo=.slice a1 n1 c1/\rr=.int .i64 r/\kk=.int .i64 (k:Int)/\b7 (w.heap.size+2<=wr.heap.size)/\b7 (Aq w wr cb (II w.heap.size x a n cap))/\b7 (l8 wr (w.heap.size+1) (.slice a1 n1 c1) L)/\b7 (L.length=k))
 case atStart=>exact⟨0,_,_,_,[],_,ae b9,rfl,rfl,rfl,ae Cu,R,xC,ae rfl⟩
 case round =>
  obtain⟨g1,U⟩:=b8 gk;subst U;obtain⟨wr,Eg⟩:=b8 wr;subst Eg;obtain⟨k,a1,n1,c1,L,r,G,rfl,rfl,rfl,HZ,HB,HO,Fv⟩:=hrel;have k0:=HB.o.c0 (jJ _ _ _ _ _);by_cases hlt:(k:Int)<x
  ·by_cases h5:k<5
   ·have J:Ints (wr.alloc (.cells #[.int .i64 0,.int .i64 1,.int .i64 2,.int .i64 3,.int .i64 (-1),.int .i64 5] 3)) (some ⟨wr.heap.size,0,none⟩) 6 6 [0,1,2,3,-1,5]:=Ints.lit wr [0,1,2,3,-1,5] 3 (by decide);have HA:=ae (eh (HB.o.ext (Ext.alloc wr _)).cur J b9 (fun b off e=>by simp only[Option.some.injEq,Addr.mk.injEq,and_true]at e;have h1:=HB.o.cur.lt;omega));have QV:=ae (HB.o.ext (Ext.alloc wr (.cells #[.int .i64 0,.int .i64 1,.int .i64 2,.int .i64 3,.int .i64 (-1),.int .i64 5] 3)));have Uy:=ae (HO.o.ext (Ext.alloc wr (.cells #[.int .i64 0,.int .i64 1,.int .i64 2,.int .i64 3,.int .i64 (-1),.int .i64 5] 3)));clear J;go_wp2_with fail;refine HA.o.mono ?_;rintro e w3 ⟨⟨q,hq,rfl⟩,hc,hg⟩;obtain⟨y,hy⟩:=b8 (([0,1,2,3,-1,5]:j9)[q]?.getD 0);rw[<-hy];have I:=ae (QV.o.call hc hg);have O:=ae (Uy.o.calls hg b9);have CY:w.heap.size+2<=w3.heap.size:=Nat.le_trans (Nat.le_trans HZ.o e7) hg.size;clear hy hc hg HA QV Uy k0;have k0:=I.o.c0 (jJ _ _ _ _ _)
    go_upto_if 29 with fail
    go_cut [8] (fun v wx=>(∃u:Int,v=.int .i64 u)/\b7 (w3=wx))
    case first =>
     generalize((k:Int) == wrap64 (x-1))=bb;cases bb with
     | true =>
       go_wp2_with fail;go_meet;exact⟨⟨_,rfl⟩,rfl⟩
     | false =>
       go_wp2_with fail;go_meet;exact⟨⟨_,rfl⟩,rfl⟩
    obtain⟨⟨u,rfl⟩,HW⟩:=hcut;have hw:=HW.o;subst hw;clear k0;go_wp2_with fail;refine(cl u w3).mono ?_;rintro e w4 ⟨rfl,hx⟩;have AB:=ae (I.o.ext hx);have K:=ae (O.o.ext hx);have J4:w.heap.size+2<=w4.heap.size:=Nat.le_trans CY hx.size;clear hx
    go_wp2_with (first
     | (at_builtin
        have T1:=K.o.ext (Ext.alloc w4 (.cells #[.int .i64 u,.int .i64 1] 46));refine aG rfl _ _ rfl (w.heap.size+1) (.slice a1 n1 c1) _ rfl T1 _ 1 _ [(u,1)] rfl (r8.one' _ _ _ _ _ e7) (j4 Fv.o) (by simp;omega) ?_;intro v5 w5 ho hg l7;obtain⟨a5,Z,c5,rfl,A9⟩:=ho.var;have xL:=ae ho;have A8:w.heap.size+2<=w5.heap.size:=Nat.le_trans (by simp;omega) hg.size;have Dm:=ae ((AB.o.ext (Ext.alloc w4 (.cells #[.int .i64 u,.int .i64 1] 46))).grew hg (fun j hj=>⟨by have:=(T1.lt j hj).1;omega,by have:=(T1.lt j hj).1;omega,vV (j4 ((T1.lt j hj).1)) _ _ _ _⟩))
        clear ho hg l7 T1))
    go_roundg (g1-1)
    case measure=>have:=G.o;omega
    case rel=>exact⟨k+1,a5,Z,c5,_,_,ae (j4 G.o),rfl,rfl,by go_num,ae A8,Dm,xL,ae (by rw[List.length_append,Fv.o];rfl)⟩
   ·go_wp2_with fail;refine bodyPost_ret (v:=.slice a1 n1 c1) (by simp[results,Tryz.results41,go_sem]) rfl ⟨⟨a1,n1,c1,L,rfl,HO.o.mono b9,by have h1:=HO.o.wK.hlen;have h2:=Fv.o;have h3:=G.o;omega⟩,HB.o.cur,HB.o.grown⟩
  ·go_wp2_with fail;refine bodyPost_ret (v:=.slice a1 n1 c1) (by simp[results,Tryz.results41,go_sem]) rfl ⟨⟨a1,n1,c1,rfl,⟨L,HO.o.mono b9⟩,by have h1:=HO.o.wK.hlen;have h2:=Fv.o;have h3:=G.o;omega⟩,HB.o.cur,HB.o.grown⟩
theorem l8.C7{b:Nat}{v:Value}{l:j6}(ho:l8 w base v l)(hb:b<base)(v0 v1:Value):l8 ((w.setCell ⟨b,0,none⟩ v0).setCell ⟨b,1,none⟩ v1) base v l :=
 ho.keep fun k hk=>by
  have h1:=(ho.lt k hk).1;exact(heap_setCell_other _ _ _ _ (by show k≠b;omega)).trans (heap_setCell_other _ _ _ _ (by show k≠b;omega))
structure AS(w wr:World)(cb b5 base:Nat)(x:Int)(b:j8)(m c:Nat)(V:j9):Prop where
 box:∃f,Aq w wr cb f/\f b5=some (#[.int .i64 x,.slice b m c],26)/\f w.heap.size=some (#[.int .i64 0,.slice none 0 0],26)/\∀k,b5<k->f k=none
 own:o8 wr base (.slice b m c) V
section
variable{w wr w':World}{cb b5 base:Nat}{x:Int}{b:j8}{m c:Nat}{V:j9}
theorem AS.call(h:AS w wr cb b5 base x b m c V)(hb:cb<base)(hc:Aa w' cb)(hg:wr.grownBy w' (some cb)):AS w w' cb b5 base x b m c V :=
 let⟨f,h1,h2⟩:=h.box;⟨⟨f,h1.call hc hg,h2⟩,h.own.calls hg hb⟩
theorem AS.ext(h:AS w wr cb b5 base x b m c V)(hx:Ext wr w'):AS w w' cb b5 base x b m c V :=
 let⟨f,h1,h2⟩:=h.box;⟨⟨f,h1.ext hx,h2⟩,h.own.ext hx⟩
theorem AS.cur(h:AS w wr cb b5 base x b m c V):Aa wr cb:=let⟨_,h1,_⟩:=h.box;h1.cur
theorem AS.c0(h:AS w wr cb b5 base x b m c V):wr.cell? ⟨b5,0,none⟩=some (.int .i64 x):=let⟨_,h1,h2,_⟩:=h.box;h1.c0 h2
theorem AS.c1(h:AS w wr cb b5 base x b m c V):wr.cell? ⟨b5,1,none⟩=some (.slice b m c):=let⟨_,h1,h2,_⟩:=h.box;h1.c1 h2
theorem AS.f5(h:AS w wr cb b5 base x b m c V)(i:Nat):wr.frozen? ⟨b5,i,none⟩=false:=let⟨_,h1,h2,_⟩:=h.box;h1.free h2 i
theorem AS.r0(h:AS w wr cb b5 base x b m c V):wr.cell? ⟨w.heap.size,0,none⟩=some (.int .i64 0):=let⟨_,h1,_,h2,_⟩:=h.box;h1.c0 h2
theorem AS.r1(h:AS w wr cb b5 base x b m c V):wr.cell? ⟨w.heap.size,1,none⟩=some (.slice none 0 0):=let⟨_,h1,_,h2,_⟩:=h.box;h1.c1 h2
theorem AS.rf(h:AS w wr cb b5 base x b m c V)(i:Nat):wr.frozen? ⟨w.heap.size,i,none⟩=false:=let⟨_,h1,_,h2,_⟩:=h.box;h1.free h2 i
theorem AS.lt(h:AS w wr cb b5 base x b m c V):b5<wr.heap.size:=let⟨_,h1,h2,_⟩:=h.box;h1.lt h2
theorem AS.again(h:AS w wr cb b5 base x b m c V){x':Int}{J:j8}{G I:Nat}{K:j9}{B:Nat}(ho:o8 wr B (.slice J G I) K)(hB:b5<B)(hb:base<=B)(h0:w.heap.size<b5):AS w ((wr.setCell ⟨b5,0,none⟩ (.int .i64 x')).setCell ⟨b5,1,none⟩ (.slice J G I)) cb b5 base x' J G I K :=
 let⟨f,h1,h2,h3,h4⟩:=h.box
 ⟨⟨_,h1.C7 h2 (.int .i64 x') (.slice J G I) (eY _) (hO _ _ _),Bx.same _ _ _,(Bx.other _ _ b9).trans h3,fun k hk=>(Bx.other _ _ b9).trans (h4 k hk)⟩,(ho.C7 hB _ _).mono hb⟩
theorem AS.rat(h:AS w wr cb b5 base x b m c V){g B:Nat}{n cap:Nat}{L:j6}(ho:l8 wr B (.slice (some ⟨g,0,none⟩) n cap) L)(hB:b5<B)(hc:cb<B)(h0:w.heap.size<b5)(G:∀k,(Value.slice b m c).ownBlock=some k->k<B)(hn:0<n)(u v:Int):AS w ((wr.setCell ⟨g,0,none⟩ (.int .i64 u)).setCell ⟨g,1,none⟩ (.int .i64 v)) cb b5 base x b m c V:=by
 obtain⟨f,h1,h2,h3,h4⟩:=h.box;have hg:=(ho.lt g rfl).1;obtain⟨b_,off,y0,I,he,_,y5,yq⟩:=ho.wK.at hn;simp only[Option.some.injEq,Addr.mk.injEq,and_true]at he;obtain⟨rfl,rfl⟩:=he;simp only[Nat.zero_mul,Nat.zero_add]at y5 yq;have s1:=h1.VQ (b:=g) (k:=0) b9 b9 (h4 g b9) y5 (eY _) (.int .i64 u);have J:(wr.setCell ⟨g,0,none⟩ (.int .i64 u)).cell? ⟨g,1,none⟩=some (.int .i64 I):=by rw[World.cell?_setCell_other _ _ _ _ e7];exact yq
 have s2:=s1.VQ (b:=g) (k:=1) b9 b9 (h4 g b9) J (eY _) (.int .i64 v);refine⟨⟨f,s2,h2,h3,h4⟩,h.own.keep fun k hk=>?_⟩;have:=G k hk;exact(heap_setCell_other _ _ _ _ (by show k≠g;omega)).trans (heap_setCell_other _ _ _ _ (by show k≠g;omega))
end
theorem wn{cap:Nat}(h:fc w a n cap)(hn:n<=1048576):
 Calls Tryz.prog 12 #[.slice a n cap] w fun e w'=>(∃(x:Int) (b:j8) (m c:Nat) (V:j9) (I:j8) (pm G:Nat) (X:j6),e=.returned (.tuple #[.agg #[.int .i64 x,.slice b m c],.slice I pm G])/\o8 w' w.heap.size (.slice b m c) V/\l8 w' w.heap.size (.slice I pm G) X/\m<=17)/\Ext w w':=by
 obtain⟨W,hW⟩:=b8 (w.alloc (.cells #[.int .i64 0,.slice none 0 0] 26));have yI:=ae (show W.heap.size=w.heap.size+1 by rw[hW];simp);have hX:Ext w W:=by rw[hW];exact Ext.alloc _ _
 have Eu:=ae (show W.heap[w.heap.size]?=some (.cells #[.int .i64 0,.slice none 0 0] 26 (0,0))by rw[hW];exact ak _ _ _ rfl);have HX:=ae hX;have HN:=ae (tv (h.ext hX) hn);clear h hX;go_enter Tryz.func12,Tryz.ntmps12
 go_wp2_with fail;rw[<-hW];refine HN.o.mono ?_;rintro e w1 ⟨⟨cb,rfl,Kc,hc⟩,hx⟩;have hws:=yI.o;have Cu:=hx.size;have EP:=hc.lt;have xT:=ae ((Aq.start hc (dX (some cb) (HX.o.trans hx))).add w.heap.size _ _ ((hx.block _ b9).trans Eu.o) b9 b9 (iD _ _ (hO _ _ _)));clear hc hx yI Eu hW HN;go_wp2_with fail;refine(rB xT.o.cur 4 b9 b9).mono ?_;rintro e w2 ⟨⟨p,vb,V,rfl,hD⟩,hc,hg⟩;have EH:=cu p (j4 hD.hi);have hlen:=hD.len;have MO:cN p<=16:=by
  have:∀k:Fin 5,cN k.val<=16:=by decide
  exact this ⟨p,by have:=hD.hi;omega⟩
 obtain⟨N,hN⟩:=b8 (cN p);rw[<-hN];rw[<-hN]at EH hlen MO;have QJ:=ae MO;clear MO;have D4:=hg.size;obtain⟨w3,AK⟩:=b8 (w2.alloc (.cells #[.int .i64 (p:Int),.slice (some ⟨vb,0,none⟩) N N] 26));have zV:=(show Aq w w3 cb (mR w.heap.size w2.heap.size (p:Int) (some ⟨vb,0,none⟩) N N)from AK▸(xT.o.call hc hg).new _ _ (iD _ _ (hO _ _ _)))
 have Zr:=ae (show AS w w3 cb w2.heap.size w1.heap.size (p:Int) (some ⟨vb,0,none⟩) N N V from
  ⟨⟨_,zV,Pp _ _ _ _ _ _,Pq b9 _ _ _ _,fun k hk=>Pr b9 b9 _ _ _ _⟩,((hD.row.own hD.new hlen b9).ext (Ext.alloc _ _):o8 (w2.alloc _) _ _ _) |> fun h=>AK▸h⟩)
 clear hc hg hD xT zV hN;go_upto_region 3 with fail;rw[<-AK];clear AK;generalize w2.heap.size=b5 at Zr D4⊢;obtain⟨pI,hpI⟩:∃y:Int,y=(p:Int):=⟨_,rfl⟩;rw[<-hpI]at Zr⊢;clear hpI;go_wp2_with fail;refine(iI Zr.o.cur 16 b9).mono ?_;rintro e w4 ⟨⟨o,rfl⟩,hc,hg⟩;have Zq:=ae (Zr.o.call b9 hc hg);clear hc hg Zr
 go_upto_if 12 with fail
 go_cut [4] (fun v wx=>v=.pointer (some ⟨cb,0,none⟩)/\∃(x:Int) (b:j8) (m c:Nat) (V:j9),b7 (AS w wx cb b5 w1.heap.size x b m c V)/\b7 (m<=17))
 case first =>
  cases o with
  | false =>
    go_wp2_with fail;go_meet;exact⟨rfl,_,_,_,_,_,Zq,ae (j4 QJ.o)⟩
  | true =>
    go_wp2_with fail;refine(K4 Zq.o.cur).mono ?_;rintro e w5 ⟨⟨x,b,m,c,V',rfl,ho,hm⟩,hc,hg⟩;have J:=ae (Zq.o.call b9 hc hg);have hlt4:=Zq.o.lt;have A8:=hg.size;have q0:=J.o.c0;have q1:=J.o.c1;have qf:=J.o.f5;have R:=ae (J.o.again (x':=x) ho hlt4 b9 b9);clear ho hc hg;go_wp2_with fail;go_meet;exact⟨rfl,_,_,_,_,_,R,ae hm⟩
 obtain⟨rfl,x,b,m,c,V,HA,HM17⟩:=hcut;clear Zq;have q0:=HA.o.c0;have q1:=HA.o.c1;have ZB:=HA.o.lt;go_wp2_with fail;refine(sy (x:=x) HA.o.cur HA.o.own.ints).mono ?_;rintro e w5 ⟨⟨I,pm,G,X,rfl,hR,hpm⟩,hc,hg⟩;have Z:=ae (fun k hk=>(HA.o.own.lt k hk).2);have Gc:=ae hR;have J:=ae (HA.o.call b9 hc hg);have yC:=hR.wK.o3;have AX:=hR.wK.l9;have A8:=hg.size;clear hR hc hg q0 q1 HA;generalize wc.heap.size=B at Gc Z ZB A8⊢;go_upto_region 6 with fail
 go_cut [24] (fun v wx=>∃o:Bool,v=.bool o/\b7 (o=true->0<pm)/\b7 (AS w wx cb b5 w1.heap.size x b m c V)/\b7 (l8 wx B (.slice I pm G) X)/\b7 (B<=wx.heap.size))
 case first =>
  by_cases h0:0<pm
  ·go_wp2_with fail;refine(iI J.o.cur 10 b9).mono ?_;rintro e w6 ⟨⟨o,rfl⟩,hc,hg⟩;have R:=ae (J.o.call b9 hc hg);have Et:=ae (Gc.o.calls hg b9);have WA:=Nat.le_trans A8 hg.size;clear hc hg;go_wp2_with fail;go_meet;exact⟨o,rfl,ae (fun _=>h0),R,Et,ae WA⟩
  ·go_wp2_with fail;go_meet;exact⟨false,rfl,ae (fun h=>by cases h),J,Gc,ae A8⟩
 obtain⟨o,rfl,YJ,R,Et,QB⟩:=hcut;clear J Gc A8
 go_upto_if 24 with fail
 go_cut [6] (fun v wx=>∃(I:j8) (pm G:Nat) (X:j6),v=.slice I pm G/\b7 (AS w wx cb b5 w1.heap.size x b m c V)/\b7 (l8 wx B (.slice I pm G) X))
 case first =>
  cases o with
  | false =>
    go_wp2_with fail;go_meet;exact⟨_,_,_,_,rfl,R,Et⟩
  | true =>
    have h0:=YJ.o rfl;obtain⟨g,rfl,MG,_,_⟩:=Et.o.block h0;go_wp2_with fail;refine(K8 R.o.cur).mono ?_;rintro e w7 ⟨⟨u,v,rfl⟩,hc,hg⟩;have HA7:=ae (R.o.call b9 hc hg);have Ur:=ae (Et.o.calls hg b9);obtain⟨_,_,hgf,_⟩:∃_:True,True/\(∀j,w7.frozen? ⟨g,j,none⟩=false)/\True:=⟨trivial,trivial,by obtain⟨g',e',_,hf,_⟩:=Ur.o.block h0;simp only[Option.some.injEq,Addr.mk.injEq,and_true]at e';subst e';exact hf,trivial⟩;obtain⟨b_,off,y0,y1,he,_,y5,yq⟩:=Ur.o.wK.at h0;simp only[Option.some.injEq,Addr.mk.injEq,and_true]at he;obtain⟨rfl,rfl⟩:=he;simp only[Nat.zero_mul,Nat.zero_add]at y5 yq;have K:=ae (HA7.o.rat Ur.o b9 b9 b9 Z.o h0 u v);have U:=Ur.o.set (k:=0) (by rw[Ur.o.wK.hlen];exact h0) u v;simp only[Nat.zero_mul,Nat.zero_add]at U;have O:=ae U;clear hc hg U;go_wp2_with fail;go_meet;exact⟨_,_,_,_,rfl,K,O⟩
 obtain⟨I,pm,G,X,rfl,HA,HR⟩:=hcut;clear R Et YJ QB Z;go_wp2_with fail;refine(iI HA.o.cur 3 b9).mono ?_;rintro e w8 ⟨⟨o,rfl⟩,hc,hg⟩;have K:=ae (HA.o.call b9 hc hg);have O:=ae (HR.o.calls hg b9);clear hc hg HA HR
 go_upto_if 30 with fail
 go_cut [6] (fun v wx=>∃(I:j8) (pm G:Nat) (X:j6),v=.slice I pm G/\b7 (AS w wx cb b5 w1.heap.size x b m c V)/\b7 (l8 wx w1.heap.size (.slice I pm G) X))
 case first =>
  cases o with
  | false =>
    go_wp2_with fail;go_meet;exact⟨_,_,_,_,rfl,K,ae (O.o.mono b9)⟩
  | true =>
    have q0:=K.o.c0;have q1:=K.o.c1;have hl8:=K.o.lt;go_wp2_with fail;refine(ot (x:=x) K.o.own.ints).mono ?_;rintro e w9 ⟨⟨v,rfl,ho⟩,hx⟩;obtain⟨a9,n9,c9,rfl,Kr⟩:=ho.var;have HA9:=ae (K.o.ext hx);have R1:=ae (ho.mono (show w1.heap.size<=w8.heap.size by omega));clear ho hx q0 q1;go_wp2_with fail;go_meet;exact⟨_,_,_,_,rfl,HA9,R1⟩
 obtain⟨I,pm,G,X,rfl,HA,HR⟩:=hcut;clear K O;have q0:=HA.o.c0;have q1:=HA.o.c1;have r0:=HA.o.r0;have r1:=HA.o.r1;have rf:=HA.o.rf;obtain⟨f,h1,h2,h3,h4⟩:=HA.o.box;have Jn:=ae (h1.C7 h3 (.int .i64 x) (.slice b m c) (eY _) (hO _ _ _));have Ew:=ae (HA.o.own.C7 (show w.heap.size<w1.heap.size by omega) (.int .i64 x) (.slice b m c));have R1:=ae (HR.o.C7 (show w.heap.size<w1.heap.size by omega) (.int .i64 x) (.slice b m c));have z0:=Jn.o.c0 (Bx.same _ _ _);have z1:=Jn.o.c1 (Bx.same _ _ _);have Fq:=ae (Jn.o.all b9);clear h1 h2 h3 h4 HA;go_wp2_with fail;refine bodyPost_ret (v:=.tuple #[.agg #[.int .i64 x,.slice b m c],.slice I pm G]) (by simp[results,Tryz.results12,go_sem,z0,z1]) rfl ⟨⟨x,b,m,c,V,I,pm,G,X,rfl,Ew.o.mono b9,R1.o.mono b9,HM17.o⟩,Fq.o⟩
theorem kZ{cap:Nat}(h:fc w a n cap)(hn:n<=1048576):
 Calls Tryz.prog 5 #[.slice a n cap] w fun e w'=>(∃(x:Int) (b:j8) (m c:Nat) (V:j9) (U:j8) (pm R:Nat) (X:j6),e=.returned (.tuple #[.agg #[.int .i64 x,.slice b m c],.slice U pm R])/\Ints w' b m c V/\r8 w' U pm R X/\m<=17)/\Ext w w':=by
 obtain⟨W,hW⟩:=b8 (w.alloc (.cells #[.int .i64 0,.slice none 0 0] 26));have yI:=ae (show W.heap.size=w.heap.size+1 by rw[hW];simp);have hX:Ext w W:=by rw[hW];exact Ext.alloc _ _
 have Eu:=ae (show W.heap[w.heap.size]?=some (.cells #[.int .i64 0,.slice none 0 0] 26 (0,0))by rw[hW];exact ak _ _ _ rfl);have HX:=ae hX;have HN:=ae (wn (h.ext hX) hn);have VC:=ae h;clear h hX;go_enter Tryz.func5,Tryz.ntmps5
 go_wp2_with fail;rw[<-hW];clear hW;refine HN.o.mono ?_;rintro e w1 ⟨⟨x,b,m,c,V,U,pm,R,X,rfl,hV,hP,Xc⟩,hx⟩;have hws:=yI.o;obtain⟨u,A7⟩:=b8 (w1.alloc (.cells #[.int .i64 x,.slice b m c] 26));have xg:Ext w1 u:=by rw[A7];exact Ext.alloc _ _
 have xZ:=ae ((HX.o.trans hx).trans xg);have zV:=ae (show u.heap[w.heap.size]?=some (.cells #[.int .i64 0,.slice none 0 0] 26 (0,0))from xg.blk (hx.blk Eu.o));have g0:u.cell? ⟨w1.heap.size,0,none⟩=some (.int .i64 x):=by rw[A7];simp
 have g1:u.cell? ⟨w1.heap.size,1,none⟩=some (.slice b m c):=by rw[A7];simp
 have HV:=ae (hV.ext xg);have HP:=ae (hP.ext xg);have CK:w.heap.size<w1.heap.size:=by have:=hx.size;omega
 clear hV hP hx xg HN HX Eu;go_upto_region 2 with fail;rw[<-A7];clear A7;generalize w1.heap.size=Z at g0 g1 CK⊢;have HG:=ae (And.intro g0 g1);have HL:=ae (tv (VC.o.ext xZ.o) hn);go_wp2_with fail;refine HL.o.mono ?_;rintro e w3 ⟨⟨cb,rfl,Kc,hc⟩,hx⟩;have xj:=ae hx;have YM:=ae (iI hc 2 b9);replace g0:=hx.k6 g0;replace g1:=hx.k6 g1;clear HL hx;go_wp2_with fail;refine YM.o.mono ?_;rintro e w4 ⟨⟨o,rfl⟩,_,hg⟩;have I:=al xj.o hg (fun j hj=>by cases hj;exact Kc);have Ai:=ae (xZ.o.trans I);have AB:=ae (I.blk zV.o);have J:=ae (HV.o.ext I);have HP4:=ae (HP.o.ext I);replace g0:=I.k6 HG.o.1;replace g1:=I.k6 HG.o.2;clear YM hg hc xj HG xZ zV HV HP VC Kc I;cases o with
 | false =>
   have hb:=AB.o;have r0:=RP hb;have r1:=RO hb;have rf:=fun k=>frozen_of_row w4 w.heap.size k _ _ hb
   have HVf:=ae ((J.o.C7 (show w.heap.size<W.heap.size by omega) (.int .i64 x) (.slice b m c)).ints);have O:=ae ((HP4.o.C7 (show w.heap.size<W.heap.size by omega) (.int .i64 x) (.slice b m c)).wK);have h1:=heap_setCell_same w4 w.heap.size 0 _ _ (.int .i64 x) hb;have h2:=heap_setCell_same _ w.heap.size 1 _ _ (.slice b m c) h1;have Ue:=ae (show Ext w ((w4.setCell ⟨w.heap.size,0,none⟩ (.int .i64 x)).setCell ⟨w.heap.size,1,none⟩ (.slice b m c))from(Ai.o.setCell (p:=⟨w.heap.size,0,none⟩) (Nat.le_refl _) _).setCell (p:=⟨w.heap.size,1,none⟩) (Nat.le_refl _) _);have z0:((w4.setCell ⟨w.heap.size,0,none⟩ (.int .i64 x)).setCell ⟨w.heap.size,1,none⟩ (.slice b m c)).cell? ⟨w.heap.size,0,none⟩=some (.int .i64 x):=by rw[cell_of_row _ _ 0 _ _ _ h2];rfl
   have z1:((w4.setCell ⟨w.heap.size,0,none⟩ (.int .i64 x)).setCell ⟨w.heap.size,1,none⟩ (.slice b m c)).cell? ⟨w.heap.size,1,none⟩=some (.slice b m c):=by rw[cell_of_row _ _ 1 _ _ _ h2];rfl
   clear hb h1 h2;go_wp2_with fail;refine bodyPost_ret (v:=.tuple #[.agg #[.int .i64 x,.slice b m c],.slice U pm R]) (by simp[results,Tryz.results5,go_sem,z0,z1]) rfl ⟨⟨x,b,m,c,V,U,pm,R,X,rfl,HVf.o,O.o,Xc⟩,Ue.o⟩
 | true =>
   have HF:=ae (fun(w':World) (h:Ext w4 w')=>je (p:=x) (J.o.ints.ext h));obtain⟨NR,Vi⟩:=b8 (yg x V);rw[<-Vi]at HF;clear Vi;obtain⟨ro,rp,rs,rk⟩:=NR;have k7:Ext w4 w4.drew:=Ext.drew w4;have Bg:=ae (fun(w':World) (h:Ext w4 w')=>(⟨h.k6 g0,h.k6 g1⟩:w'.cell? ⟨Z,0,none⟩=some (.int .i64 x)/\w'.cell? ⟨Z,1,none⟩=some (.slice b m c)));clear g0 g1;go_wp2_with fail;have hne:w.heap.size≠Z:=by omega
   refine wp_region_held_drew (S:=(fun w'=>w'.cell? ⟨Z,0,none⟩=some (.int .i64 x)/\w'.cell? ⟨Z,1,none⟩=some (.slice b m c))) e8 ?_ (fun k9=>?_)
   ·exact Bg.o _ k7
   refine tk 0 ?_;refine tk 1 ?_;refine rd (i:=2) (h:=fun K hK=>?_);go_simp;refine(HF.o _ k7).mono ?_;rintro e w5 ⟨⟨na,nn,nc,sa,sn,sc,rfl,BG,hst⟩,hx⟩;have G:=k7.trans hx;have hfd:∀w:World,(Instr.field 33 (.agg #[.bool ro,.slice na nn nc,.slice sa sn sc,.int .i64 (rk:Int)]) 1).run Tryz.prog w=.ok (.slice na nn nc) w:=fun _=>e8;clear hst hx;have hb:=G.blk AB.o;have rf:=fun k=>frozen_of_row w5 w.heap.size k _ _ hb;have r0:=RP hb;have r1:=RO hb
   go_wp2_with fail;refine hK.out _ _ ?_ (fun k9=>?_)
   ·exact Bg.o _ G
   clear hK K
   try simp only[Act.put,sA,sB,sC]
   refine tk 3 ?_;refine rd (i:=4) (h:=fun K hK=>?_);go_simp;refine hK.out _ _ ?_ (fun k9=>?_)
   ·exact⟨(World.cell?_setCell_far _ _ _ _ hne).trans ((World.cell?_setCell_far _ _ _ _ hne).trans (Bg.o _ G).1),(World.cell?_setCell_far _ _ _ _ hne).trans ((World.cell?_setCell_far _ _ _ _ hne).trans (Bg.o _ G).2)⟩
   clear hK K
   try simp only[Act.put,sA,sB,sC]
   refine tk 5 ?_;refine wpAnyH_done e8 ?_ _;have h1:=heap_setCell_same w5 w.heap.size 0 _ _ (.int .i64 x) hb;have h2:=heap_setCell_same _ w.heap.size 1 _ _ (.slice b m c) h1;have A8:=G.size;have J4:=Ai.o.size;have HVf:=ae (((J.o.ext G).C7 (show w.heap.size<W.heap.size by omega) (.int .i64 x) (.slice b m c)).ints);have O:=ae ((BG.C7 (show w.heap.size<w4.drew.heap.size by have:=k7.size;have:=lt_of_block AB.o;omega) (.int .i64 x) (.slice b m c)).wK);have Ue:=ae (show Ext w ((w5.setCell ⟨w.heap.size,0,none⟩ (.int .i64 x)).setCell ⟨w.heap.size,1,none⟩ (.slice b m c))from((Ai.o.trans G).setCell (p:=⟨w.heap.size,0,none⟩) (Nat.le_refl _) _).setCell (p:=⟨w.heap.size,1,none⟩) (Nat.le_refl _) _);have z0:((w5.setCell ⟨w.heap.size,0,none⟩ (.int .i64 x)).setCell ⟨w.heap.size,1,none⟩ (.slice b m c)).cell? ⟨w.heap.size,0,none⟩=some (.int .i64 x):=by rw[cell_of_row _ _ 0 _ _ _ h2];rfl
   have z1:((w5.setCell ⟨w.heap.size,0,none⟩ (.int .i64 x)).setCell ⟨w.heap.size,1,none⟩ (.slice b m c)).cell? ⟨w.heap.size,1,none⟩=some (.slice b m c):=by rw[cell_of_row _ _ 1 _ _ _ h2];rfl
   clear hb h1 h2 BG k9 hfd r0 r1 rf k7 G;go_wp2_with fail;refine bodyPost_ret (v:=.tuple #[.agg #[.int .i64 x,.slice b m c],.slice na nn nc]) (by simp[results,Tryz.results5,go_sem,z0,z1]) rfl ⟨⟨x,b,m,c,V,na,nn,nc,rp,rfl,HVf.o,O.o,Xc⟩,Ue.o⟩
end Go.Proofs.YtalmoolkhcgmmaaGreat
namespace Go.Proofs.YtalmoolkhcgmmaaGreat
set_option maxHeartbeats 16000000
set_option maxRecDepth 100000
open Go.RowKit
theorem uA(o:Bool)(l:j6)(r:j5)(x:Int):jS o l r x o l r x=true:=by unfold jS;simp
theorem pL{w:World}{a:j8}{n cap:Nat}(h:fc w a n cap):
 Calls Tryz.prog 3 #[.slice a n cap] w fun e w'=>e=.returned (.bool true)/\Ext w w':=by
 have o3:=h.o3;have l9:=h.l9;have H:=ae h;clear h;by_cases hbig:1048576<n
 ·go_enter Tryz.func3,Tryz.ntmps3
  go_wp2_with fail;go_in;go_wp2_with fail;go_ret;exact⟨rfl,Ext.refl _⟩
 have hb:n<=1048576:=by omega
 go_enter Tryz.func3,Tryz.ntmps3
 go_wp2_with fail;go_in;go_wp2_with fail;refine(kZ H.o hb).mono ?_;rintro e w1 ⟨⟨x,b,m,c,V,pb,pm,pc,X,rfl,hV,hP,hm⟩,hx⟩;obtain⟨W,hW⟩:=b8 (w1.alloc (.cells #[.int .i64 x,.slice b m c] 26));have I:Ext w1 W:=by rw[hW];exact Ext.alloc _ _
 have XA:=ae (hx.trans I);have HV:=ae (hV.ext I);have HP:=ae (hP.ext I);have yD:=ae hV.hlen;have HM:=ae hm;have g0:W.cell? ⟨w1.heap.size,0,none⟩=some (.int .i64 x):=by rw[hW];simp
 have g1:W.cell? ⟨w1.heap.size,1,none⟩=some (.slice b m c):=by rw[hW];simp
 clear hV hP hx I hm;go_upto_region 4 with fail;rw[<-hW];clear hW;generalize w1.heap.size=bg at g0 g1⊢;obtain⟨kk,MA⟩:=b8 (fI x V X);have HK:=ae MA;have Dx:=ae (jY (p:=x) HV.o HP.o);rw[<-MA]at Dx;clear MA;go_wp2_with fail;refine Dx.o.mono ?_;rintro e w2 ⟨rfl,hx⟩;have X1:=ae hx;replace g0:=hx.k6 g0;replace g1:=hx.k6 g1;clear hx Dx;go_wp2_with fail;have Sa:=ae (mN (p:=x) (HV.o.ext X1.o));refine Sa.o.mono ?_;obtain⟨NR,Vi⟩:=b8 (yg x V);rw[<-Vi];have Z:=ae Vi;clear Vi Sa;obtain⟨ro,rp,rs,rk⟩:=NR;have OK:=ae (show(yg x V).pt=rp by rw[<-Z.o]);have z7:=ae (show(yg x V).ok=ro by rw[<-Z.o]);rintro e J ⟨⟨na,nn,nc,sa,sn,sc,rfl,BG,hst⟩,hx⟩;obtain⟨G,O⟩:=b8 (J.alloc (.cells #[.bool ro,.slice na nn nc,.slice sa sn sc,.int .i64 (rk:Int)] 33));have I:Ext J G:=by rw[O];exact Ext.alloc _ _
 have X2:=ae (X1.o.trans (hx.trans I));have U:=ae (BG.wK.ext I);have Ax:=ae (hst.EU.ext I);have n0:G.cell? ⟨J.heap.size,0,none⟩=some (.bool ro):=by rw[O];simp
 have n1:G.cell? ⟨J.heap.size,1,none⟩=some (.slice na nn nc):=by rw[O];simp
 have n2:G.cell? ⟨J.heap.size,2,none⟩=some (.slice sa sn sc):=by rw[O];simp
 have n3:G.cell? ⟨J.heap.size,3,none⟩=some (.int .i64 (rk:Int)):=by rw[O];simp
 replace g0:=(hx.trans I).k6 g0;replace g1:=(hx.trans I).k6 g1;clear hx I BG hst;go_upto_region 6 with fail;rw[<-O];clear O;generalize J.heap.size=bn at n0 n1 n2 n3⊢;have Bg:=ae (fun(w':World) (h:Ext G w')=>(⟨h.k6 g0,h.k6 g1,h.k6 n0,h.k6 n1,h.k6 n2,h.k6 n3⟩:w'.cell? ⟨bg,0,none⟩=some (.int .i64 x)/\w'.cell? ⟨bg,1,none⟩=some (.slice b m c)/\w'.cell? ⟨bn,0,none⟩=some (.bool ro)/\w'.cell? ⟨bn,1,none⟩=some (.slice na nn nc)/\w'.cell? ⟨bn,2,none⟩=some (.slice sa sn sc)/\w'.cell? ⟨bn,3,none⟩=some (.int .i64 (rk:Int))));have k7:Ext G G.drew:=Ext.drew G;have R:=ae (fun(w':World) (h:Ext G w')=>pP (p:=x) (HV.o.ext (X2.o.trans h)) (HP.o.ext (X2.o.trans h)));rw[<-HK.o]at R;have Fv:=ae (fun(w':World) (h:Ext G w')=>je (p:=x) (HV.o.ext (X2.o.trans h)));rw[<-Z.o]at Fv;have hke:(kk == kk)=true:=by cases kk<;>rfl
 clear g0 g1 n0 n1 n2 n3;refine wp_region_held_drew (S:=(fun w'=>w'.cell? ⟨bg,0,none⟩=some (.int .i64 x)/\w'.cell? ⟨bg,1,none⟩=some (.slice b m c)/\w'.cell? ⟨bn,0,none⟩=some (.bool ro)/\w'.cell? ⟨bn,1,none⟩=some (.slice na nn nc)/\w'.cell? ⟨bn,2,none⟩=some (.slice sa sn sc)/\w'.cell? ⟨bn,3,none⟩=some (.int .i64 (rk:Int)))) e8 ?_ (fun k9=>?_)
 ·exact Bg.o _ k7
 refine tk 0 ?_;refine tk 1 ?_;refine tk 2 ?_;refine rd (i:=3) (h:=fun K hK=>?_);go_simp;refine(R.o _ k7).mono ?_;rintro e w9 ⟨rfl,hx⟩;have IV:=k7.trans hx;clear hx;go_wp2_with fail;refine hK.out _ _ ?_ (fun k9=>?_)
 ·exact Bg.o _ IV
 clear hK K
 try simp only[Act.put,sA,sB,sC]
 refine tk 4 ?_;refine tk 5 ?_;refine tk 6 ?_;refine tk 7 ?_;refine rd (i:=8) (h:=fun K hK=>?_);go_simp;refine(Fv.o _ IV).mono ?_;rintro e IH ⟨⟨pa',pn',pc',sa',sn',sc',rfl,BG,hst⟩,hx⟩;have MB:=IV.trans hx;have Sc:=ae (lM (o:=ro) (o':=ro) (x:=(rk:Int)) (x':=(rk:Int)) (U.o.ext MB) (Ax.o.ext MB) BG.wK hst.EU);rw[uA]at Sc;clear hx BG hst;go_wp2_with fail;refine hK.out _ _ ?_ (fun k9=>?_)
 ·exact Bg.o _ MB
 clear hK K
 try simp only[Act.put,sA,sB,sC]
 refine rd (i:=9) (h:=fun K hK=>?_);go_simp;refine Sc.o.mono ?_;rintro e Hi ⟨rfl,hx⟩;have H9:=MB.trans hx;clear hx;go_wp2_with fail;refine hK.out _ _ ?_ (fun k9=>?_)
 ·exact Bg.o _ H9
 clear hK K
 try simp only[Act.put,sA,sB,sC]
 refine tk 10 ?_;refine tk 11 ?_;refine wpAnyH_done e8 ?_ _;obtain⟨g0,g1,n0,n1,n2,n3⟩:=Bg.o _ H9;have X11:=ae (XA.o.trans (X2.o.trans H9));have HV11:=ae (HV.o.ext (X2.o.trans H9));have NS:=ae (HP.o.ext (X2.o.trans H9));have UB:=ae (U.o.ext H9);clear k7 IV MB H9 Sc Fv R k9 Bg n2 n3 Ax U X2 X1 XA HV HP;cases ro with
 | false =>
   go_wp2_with fail;go_ret;exact⟨rfl,X11.o⟩
 | true =>
   have HY:=ae (show fI x V rp=true by rw[<-OK.o];exact th yD.o HM.o z7.o);have HE:=ae (show kk=decide (X=rp)by rw[HK.o,<-OK.o];exact SI yD.o HM.o z7.o X);have u:=ae (jY (p:=x) HV11.o UB.o);rw[HY.o]at u;have HEV:=ae (fun(w':World) (h:Ext Hi w')=>pO (NS.o.ext h) (UB.o.ext h));rw[<-HE.o]at HEV;go_wp2_with fail;refine u.o.mono ?_;rintro e IG ⟨rfl,hx⟩;have T9:=ae hx;replace n1:=hx.k6 n1;clear hx u n0 g0 g1;go_wp2_with fail;refine(HEV.o _ T9.o).mono ?_;rintro e Jo ⟨rfl,hx⟩;have X13:=ae (T9.o.trans hx.ext);clear hx;go_wp2_with fail;go_ret;exact⟨rfl,X11.o.trans X13.o⟩
end Go.Proofs.YtalmoolkhcgmmaaGreat
