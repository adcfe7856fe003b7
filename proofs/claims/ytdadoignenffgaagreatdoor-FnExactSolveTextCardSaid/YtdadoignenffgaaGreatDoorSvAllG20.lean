import Derived.Test.YtdadoignenffgaaGreatDoorSvAllG15
import Derived.Test.YtdadoignenffgaaGreatDoorSvAllG16
import Derived.Test.YtdadoignenffgaaGreatDoorSvAllG19
import Derived.Test.YtdadoignenffgaaGreatDoorSvAllG9
set_option linter.unusedVariables false
set_option linter.unusedSimpArgs false
namespace Go.Proofs.YtdadoignenffgaaGreatDoor
variable{V:j7}{n k:Nat}{w:World}{a:j6}
set_option maxHeartbeats 16000000
set_option maxRecDepth 100000
open Go.RowKit
theorem ln{v:Int}(hn:V.length=n)(h:k+1<n)(hv:V[k+1]?.getD 0=v):(bg V).take k++[(-v,1)]=(bg V).take (k+1):=by
 have h1:k+1<V.length:=by omega
 have h2:(bg V)[k]?=some (-v,1):=by
  unfold bg;rw[List.getElem?_eq_getElem h1,Option.getD_some]at hv;rw[List.getElem?_map,List.getElem?_drop,Nat.add_comm 1 k,List.getElem?_eq_getElem h1,hv];rfl
 have h3:k<(bg V).length:=(List.getElem?_eq_some_iff.1 h2).1;rw[List.take_succ_eq_append_getElem h3,(List.getElem?_eq_some_iff.1 h2).2]
theorem ow{p:Int}{cap:Nat}(h:Ints w a n cap V)(zv:1<=n)(hn:n<=1000)(J:∀x∈V,-500<=x/\x<=500):
 Calls Tryz.prog 127 #[pair p a n cap,.int .i64 1,.int .i64 ((n:Int)-1)] w fun e w'=>(∃v,e=.returned v/\l9 w' w.heap.size v (bg V))/\Ext w w':=by
 have HL:=ae h.hlen;have xB:=h.l8;have zC:=h.o0;obtain⟨W,hW⟩:=b9 (w.alloc (.cells #[.int .i64 p,.slice a n cap] 32));have G:Ext w W:=by rw[hW];exact Ext.alloc _ _
 have Ey:=ae G;have HI:=ae (h.ext G);have B0:=ae J;have Q:=ae (show W.cell? ⟨w.heap.size,1,none⟩=some (.slice a n cap)by rw[hW];simp);have W5:=G.size;have HO:=ae (l9.made W W.heap.size (Nat.le_refl _));have zA:=ae (show(bg V).length=n-1 by unfold bg;simp[h.hlen]);clear h J G;go_enter Tryz.func127,Tryz.ntmps127
 go_upto_region 1 with fail;rw[<-hW];clear hW;go_wp2_with fail
 go_loopg [7,8] (n-1) (fun gk oo ii wr=>∃(k:Nat) (a1:j6) (E p1:Nat),b7 (gk+k=n-1)/\ii=.int .i64 ((k+1:Nat):Int)/\oo=.slice a1 E p1/\b7 (l9 wr W.heap.size (.slice a1 E p1) ((bg V).take k))/\b7 (Ext W wr))
 case atStart=>exact⟨0,_,_,_,ae e7,rfl,rfl,HO,ae (Ext.alloc _ _)⟩
 case round =>
  obtain⟨g1,Z⟩:=b9 gk;subst Z;obtain⟨o8,o4⟩:=b9 wr;subst o4;obtain⟨k,a1,E,p1,K,rfl,rfl,vw,HX⟩:=hrel;have hsz:=HX.o.size;have bx:=HX.o.j9 Q.o;by_cases hlt:k+1<n
  ·have hle:((k+1:Nat):Int)<=(n:Int)-1:=by omega
   obtain⟨eb,vd,AD,O⟩:=(HI.o.ext HX.o).at hlt;subst AD;obtain⟨v,hv⟩:=b9 (V[k+1]?.getD 0);have xK:-500<=v/\v<=500:=by
    rw[hv,List.getElem?_eq_getElem (by rw[HL.o];exact hlt),Option.getD_some];exact B0.o _ (List.getElem_mem _)
   rw[<-hv]at O;have xZ:=ae (ln HL.o hlt hv.symm);have FU:IntKind.i64.wrap (-v)=-v:=by rw[IntKind.wrap_i64];omega
   have BU:(0:Int)<=((k+1:Nat):Int):=by omega
   have yx:((k+1:Nat):Int)<(n:Int):=by omega
   have k7:IntKind.i64.wrap (((k+1:Nat):Int)+1)=((k+1+1:Nat):Int):=by rw[IntKind.wrap_i64];omega
   have Gf:=ae (show((bg V).take k).length=k by rw[List.length_take,zA.o];omega);clear hv;go_wp2_with fail;refine(cv (-v) _).mono ?_;rintro e w3 ⟨rfl,hx⟩;have X3:=ae (HX.o.trans hx);have I:=ae (vw.o.ext hx);have Cs:=X3.o.size;clear hx
   go_wp2_with (first
    | (at_builtin;refine aI rfl _ _ rfl W.heap.size (.slice a1 E p1) _ rfl (I.o.ext (Ext.alloc _ _)) _ 1 _ [(-v,1)] rfl (Rats.one' _ _ _ _ _ e8) (by rw[Gf.o];omega) (by simp;omega) ?_;intro v5 w5 ho hg l7;have X5:=ae (ak (X3.o.trans (Ext.alloc _ _)) hg (fun j hj=>(I.o.lt j hj).1));obtain⟨a5,n5,U,rfl,zj⟩:=ho.var;have vU:=ae ho;clear ho hg l7))
   go_roundg (g1-1)
   case measure=>have:=K.o;omega
   case rel=>exact⟨k+1,a5,n5,U,ae (j1 K.o),by go_num,rfl,ae (by rw[<-xZ.o];exact vU.o),X5⟩
  ·have hle:¬((k+1:Nat):Int)<=(n:Int)-1:=by omega
   have HT:=ae (show(bg V).take k=bg V from List.take_of_length_le (by rw[zA.o];omega));go_wp2_with fail;go_ret;exact⟨⟨_,rfl,by rw[<-HT.o];exact vw.o.mono W5⟩,Ey.o.trans HX.o⟩
theorem lK{cap:Nat}{Y:j4}(h:Rats w a n cap Y)(hn:n<=100000)(hY:∀k:Nat,-9223372036854775807<=(Y[k]?.getD (0,0)).1/\(Y[k]?.getD (0,0)).1<=9223372036854775807):
 Calls Tryz.prog 75 #[.slice a n cap] w fun e w'=>(∃v,e=.returned v/\l9 w' w.heap.size v (Y.map uU))/\Ext w w':=by
 have HL:=ae h.hlen;have xB:=h.l8;have zC:=h.o0;have HI:=ae h;have HB:=ae hY;have HO:=ae (l9.made w w.heap.size (Nat.le_refl _));clear h hY;go_enter Tryz.func75,Tryz.ntmps75
 go_wp2_with fail
 go_loopg [3,9] n (fun gk oo ii wr=>∃(k:Nat) (a1:j6) (G p1:Nat),b7 (gk+k=n)/\ii=.int .i64 (k:Int)/\oo=.slice a1 G p1/\b7 (l9 wr w.heap.size (.slice a1 G p1) ((Y.take k).map uU))/\b7 (Ext w wr))
 case atStart=>exact⟨0,_,_,_,ae e7,rfl,rfl,HO,ae (Ext.alloc _ _)⟩
 case round =>
  obtain⟨g1,O⟩:=b9 gk;subst O;obtain⟨o8,Q⟩:=b9 wr;subst Q;obtain⟨k,a1,G,p1,J,rfl,rfl,vw,HX⟩:=hrel;have hsz:=HX.o.size;by_cases hlt:k<n
  ·obtain⟨eb,vd,x,y,W,E,xj,AY⟩:=(HI.o.ext HX.o).at hlt;subst W;have hb:=HB.o k;rw[E]at hb
   have xZ:=ae (show(Y.take k).map uU++[(-x,y)]=(Y.take (k+1)).map uU by
    have h1:k<Y.length:=by rw[HL.o];exact hlt
    rw[List.take_succ_eq_append_getElem h1,List.map_append,List.map_singleton];rw[List.getElem?_eq_getElem h1,Option.getD_some]at E
    rw[E];rfl)
   have BU:(0:Int)<=(k:Int):=by omega
   have yx:(k:Int)<(n:Int):=by omega
   have Gf:=ae (show((Y.take k).map uU).length=k by rw[List.length_map,List.length_take,HL.o];omega);have HM:=ae (fun w'=>dS x y w' hb.1 hb.2);clear E hb;go_wp2_with fail;refine(HM.o _).mono ?_;rintro e w3 ⟨rfl,hx⟩;have X3:=ae ((HX.o.trans (Ext.alloc _ _)).trans hx);have I:=ae ((vw.o.ext (Ext.alloc _ _)).ext hx);have Cs:=X3.o.size;clear hx
   go_wp2_with (first
    | (at_builtin;refine aI rfl _ _ rfl w.heap.size (.slice a1 G p1) _ rfl (I.o.ext (Ext.alloc _ _)) _ 1 _ [(-x,y)] rfl (Rats.one' _ _ _ _ _ e8) (by rw[Gf.o];omega) (by simp;omega) ?_;intro v5 w5 ho hg l7;have X5:=ae (ak (X3.o.trans (Ext.alloc _ _)) hg (fun j hj=>(I.o.lt j hj).1));obtain⟨a5,U,K,rfl,zj⟩:=ho.var;have vU:=ae ho;clear ho hg l7))
   go_roundg (g1-1)
   case measure=>have:=J.o;omega
   case rel=>exact⟨k+1,a5,U,K,ae (j1 J.o),by go_num,rfl,ae (by rw[<-xZ.o];exact vU.o),X5⟩
  ·have HT:=ae (show Y.take k=Y from List.take_of_length_le (by rw[HL.o];omega));rw[HT.o]at vw;go_wp2_with fail;go_ret;exact⟨⟨_,rfl,vw.o⟩,HX.o⟩
def Ud(w:World)(e:Ending)(A:j5)(B:j7)(C:j4)(ok:Bool):Prop :=
 ∃a na ca b nb cb c nc cc,e=.returned (.tuple #[Al a na ca b nb cb c nc cc,.bool ok])/\(ok=true->Bf w a na ca b nb cb c nc cc A B C)
theorem Mm(hn:n<=32):∀k:Nat,(yA 1 (n-1))[k]?.getD 0<=9223372036854775807:=by
 intro k;by_cases h:k<(yA 1 (n-1)).length
 ·rw[List.getElem?_eq_getElem h,Option.getD_some];simp only[yA,List.length_map,List.length_range]at h;simp only[yA,List.getElem_map,List.getElem_range];omega
 ·rw[List.getElem?_eq_none e7];decide
theorem oS{p:Int}{cap:Nat}(h:Ints w a n cap V):
 Calls Tryz.prog 69 #[pair p a n cap] w fun e w'=>Ud w' e (cq p.toNat n) (cL p.toNat) (bg V) (aH p V)/\Ext w w':=by
 obtain⟨W,hW⟩:=b9 ((w.alloc (.cells #[.int .i64 p,.slice a n cap] 32)).alloc (.cells #[.slice none 0 0,.slice none 0 0,.slice none 0 0] 68));have wT:=ae (show W.heap.size=w.heap.size+2 by rw[hW];simp);have uV:=ae (show Ext w W by rw[hW];exact(Ext.alloc _ _).trans (Ext.alloc _ _));have D9:=ae (show W.cell? ⟨w.heap.size,1,none⟩=some (.slice a n cap)by rw[hW];simp);have D8:=ae (show W.cell? ⟨w.heap.size,0,none⟩=some (.int .i64 p)by rw[hW];simp);have K1:=ae (show W.heap[w.heap.size+1]?=some (.cells #[.slice none 0 0,.slice none 0 0,.slice none 0 0] 68 (0,0))by rw[hW];exact aj _ _ _ e8);obtain⟨U,Q⟩:=b9 (w.alloc (.cells #[.int .i64 p,.slice a n cap] 32));have HXG:=ae (show Ext U W by rw[hW,Q];exact Ext.alloc _ _);have H9:=ae (show U.heap.size=w.heap.size+1 by rw[Q];simp);have HG0:=ae (show U.cell? ⟨w.heap.size,0,none⟩=some (.int .i64 p)by rw[Q];simp);have Gq:=ae (show U.cell? ⟨w.heap.size,1,none⟩=some (.slice a n cap)by rw[Q];simp);clear Q;have xJ:=ae h.hlen;have EU:=h.l8;have ET:=h.o0;have Cb:=ae (h.ext uV.o);have HC:=ae (dR (p:=p) (h.ext uV.o));have Dj:(w.heap.size+1)<W.heap.size:=by rw[wT.o];omega
 have wi:=ae (fun(w':World) (hx:Ext W w')=>(hx.block _ Dj).trans K1.o);clear h Dj;cases hg:aH p V
 ·rw[hg,hW]at HC;clear hg;go_enter Tryz.func69,Tryz.ntmps69
  go_wp2_with fail;refine HC.o.mono ?_;rw[<-hW];rintro e w1 ⟨rfl,E⟩;have xA:=vz.ym (wi.o w1 E);have xm:=vz.yk (wi.o w1 E);have yI:=vz.yj (wi.o w1 E);have CT:=vz.y8 (wi.o w1 E);have vh:=ae E;clear E;go_wp2_with fail;refine bodyPost_ret (v:=.tuple #[.agg #[.slice none 0 0,.slice none 0 0,.slice none 0 0],.bool false]) (by simp[results,Tryz.results69,go_sem,xA,xm,yI]) rfl ⟨⟨none,0,0,none,0,0,none,0,0,rfl,fun h=>Bool.noConfusion h⟩,(((uV.o.trans vh.o).store 0 e7 _).store 1 e7 _).store 2 e7 _⟩
 ·obtain⟨q,rfl,h1,h5,hlen,_,xK⟩:=bF hg;have hq:=cW q h5;have BS:n<=32:=by rw[<-xJ.o,hlen];omega
  have zv:1<=n:=by rw[<-xJ.o,hlen];omega
  have B0:=ae xK;have DK:IntKind.i64.wrap ((n:Int)-1)=(n:Int)-1:=by rw[IntKind.wrap_i64];omega
  rw[hg,hW]at HC;clear hg hlen xK hq;go_enter Tryz.func69,Tryz.ntmps69
  go_wp2_with fail;refine HC.o.mono ?_;rw[<-hW];clear hW;rintro e w1 ⟨rfl,E⟩;have wK:=E.j9 D8.o;have xB:=E.j9 D9.o;have vh:=ae E;clear E HC;have G:=ae (uV.o.trans vh.o);have VW:=ae (Mm BS);have zP:=ae (show(yA 1 (n-1)).length=n-1 by simp[yA]);go_wp2_with fail;have hk:Ext w1 w1.drew:=Ext.drew w1;refine wp_region_held_drew (S:=(fun w'=>w'.cell? ⟨w.heap.size,0,none⟩=some (.int .i64 (q:Int))/\w'.cell? ⟨w.heap.size,1,none⟩=some (.slice a n cap)/\Ext w w')) e9 ?_ (fun J=>?_)
  ·exact⟨hk.j9 wK,hk.j9 xB,G.o.trans hk⟩
  refine tk 0 ?_;refine tk 1 ?_;refine tk 2 ?_;refine tk 5 ?_;refine tk 6 ?_;refine tk 8 ?_;refine tk 9 ?_;refine rd (i:=3) (h:=fun K hK=>?_);go_simp
  (go_at_call 125;refine(jt 1 ((n:Int)-1) (n-1) e7 e7 e7 e7).mono ?_;rintro e w3 ⟨⟨v3,rfl,xt⟩,vj⟩;obtain⟨a3,n3,c3,rfl,FF⟩:=xt.var;have hk:=hk.trans vj;have vi:=ae xt;clear xt vj)
  go_wp2_with fail;refine hK.out _ _ ?_ (fun J=>?_)
  ·exact⟨hk.j9 wK,hk.j9 xB,G.o.trans hk⟩
  clear hK K
  try simp only[Act.put,sA,sB,sC]
  refine rd (i:=4) (h:=fun K hK=>?_);go_simp
  (go_at_call 124;refine(nm q h5 vi.o.ints VW.o (by have h1:=FF.o;have h2:=zP.o;omega)).mono ?_;rintro e w4 ⟨⟨v4,rfl,Z⟩,vW⟩;obtain⟨a4,n4,c4,rfl,UO⟩:=Z.var;have I:=ae (cV.mono' Z hk.size);have hk:=hk.trans vW;clear Z vW)
  go_wp2_with fail;refine hK.out _ _ ?_ (fun J=>?_)
  ·exact⟨hk.j9 wK,hk.j9 xB,G.o.trans hk⟩
  clear hK K
  try simp only[Act.put,sA,sB,sC]
  refine rd (i:=7) (h:=fun K hK=>?_);go_simp
  (go_at_call 126;refine(jL q 1 e7).mono ?_;rintro e w5 ⟨⟨v5,rfl,BH⟩,wX⟩;obtain⟨a5,n5,c5,rfl,zj⟩:=BH.var;have I:=ae (cV.ext I.o wX);have vU:=ae (BH.mono hk.size);have hk:=hk.trans wX;clear BH wX)
  go_wp2_with fail;refine hK.out _ _ ?_ (fun J=>?_)
  ·exact⟨hk.j9 wK,hk.j9 xB,G.o.trans hk⟩
  clear hK K
  try simp only[Act.put,sA,sB,sC]
  refine rd (i:=10) (h:=fun K hK=>?_);go_simp
  (go_at_call 127;refine(ow (p:=(q:Int)) (((Cb.o.ext vh.o).ext hk)) zv e7 B0.o).mono ?_;rintro e w6 ⟨⟨v6,rfl,J8⟩,FT⟩;obtain⟨a6,n6,c6,rfl,Eh⟩:=J8.var;have I:=ae (cV.ext I.o FT);have vU:=ae (vU.o.ext FT);have yT:=ae (J8.mono hk.size);have hk:=hk.trans FT;have z7:=wi.o _ (vh.o.trans hk);have xA:=vz.ym z7;have xm:=vz.yk z7;have yI:=vz.yj z7;have CT:=vz.y8 z7;clear J8 FT z7)
  go_wp2_with fail;refine hK.out _ _ ?_ (fun J=>?_)
  ·exact⟨hk.j9 wK,hk.j9 xB,G.o.trans hk⟩
  clear hK K
  try simp only[Act.put,sA,sB,sC]
  refine tk 11 ?_;have O:=fun u0 u1 u2=>((((HXG.o.trans vh.o).trans hk).store (b:=w.heap.size+1) 0 (Nat.le_of_eq H9.o) u0).store (b:=w.heap.size+1) 1 (Nat.le_of_eq H9.o) u1).store (b:=w.heap.size+1) 2 (Nat.le_of_eq H9.o) u2
  refine rd (i:=12) (h:=fun K hK=>?_);go_simp;refine hK.out _ _ ?_ (fun J=>?_)
  ·exact⟨(O _ _ _).j9 HG0.o,(O _ _ _).j9 Gq.o,(((G.o.trans hk).store 0 e7 _).store 1 e7 _).store 2 e7 _⟩
  clear hK K
  try simp only[Act.put,sA,sB,sC]
  refine tk 13 ?_;refine wpAnyH_done e9 ?_ _;have BQ:=vh.o.size;rw[wT.o]at BQ;have OD:∀k,w1.heap.size<=k->(((w6.setCell ⟨w.heap.size+1,0,none⟩ (.slice a4 n4 c4)).setCell ⟨w.heap.size+1,1,none⟩ (.slice a5 n5 c5)).setCell ⟨w.heap.size+1,2,none⟩ (.slice a6 n6 c6)).heap[k]?=w6.heap[k]?:=fun k yx=>by
   rw[heap_setCell_other _ _ _ _ (show k≠w.heap.size+1 by omega),heap_setCell_other _ _ _ _ (show k≠w.heap.size+1 by omega),heap_setCell_other _ _ _ _ (show k≠w.heap.size+1 by omega)]
  go_wp2_with fail;refine bodyPost_ret (v:=.tuple #[Al a4 n4 c4 a5 n5 c5 a6 n6 c6,.bool true]) (by simp[results,Tryz.results69,go_sem,xA,xm,yI]) rfl ⟨⟨a4,n4,c4,a5,n5,c5,a6,n6,c6,rfl,fun _=>⟨?_,?_,?_⟩⟩,(((G.o.trans hk).store 0 e7 _).store 1 e7 _).store 2 e7 _⟩
  ·exact cV.DC (I.o.on _ fun k h1 _=>OD k h1)
  ·exact(vU.o.on _ fun k h1 _=>OD k h1).ints
  ·exact(yT.o.keep fun k h1=>OD k (yT.o.lt k h1).1).uZ
theorem Mp{A:j5}{B:j7}{C:j4}(ok:vG A B C=true){r:yu}(h:xF A B C=some r)(hs:r.status=1):
 r.Y.length=B.length/\o9 r.value=true/\(∀k,k<r.Y.length->o9 (r.Y[k]?.getD (0,0))=true):=by
 obtain⟨h1,h2,h3,h4,h5,h6⟩:=eP ok;unfold xF at h;rw[h3]at h;cases e1:aO (dI C.length A.length) 1000 (bD A B C.length)with
 | none=>rw[e1]at h;cases h
 | some p1 =>
   rw[e1]at h;simp only[Option.bind_some]at h
   split at h
   ·rw[Option.map_eq_some_iff]at h;obtain⟨Y,_,rfl⟩:=h;cases hs
   ·cases e2:aY C.length (p1.t,p1.left) A.length with
    | none=>rw[e2]at h;cases h
    | some s =>
      rw[e2]at h;simp only[Option.bind_some]at h;rw[Option.map_eq_some_iff]at h;obtain⟨p2,e3,h⟩:=h
      split at h
      ·subst h;cases hs
      ·have i1:=(du (fR ok) e1).1;have i2:=(eM (s:=(p1.t,p1.left)) i1 e2).1;obtain⟨i3,e4,_⟩:=du i2 e3;obtain⟨c1,c2⟩:=dW i3 e4;subst h;refine⟨by simp[h3],?_,fun k hk=>?_⟩
       ·simp only;rw[dh];exact c1.2 _ e7
       ·simp only[List.length_map,List.length_range]at hk;simp only;rw[List.getElem?_map,List.getElem?_range hk,Option.map_some,Option.getD_some];have hv:=c1.2 (C.length+k) e7;unfold dE yz
        split
        ·rw[dh,dh];exact hv
        ·rw[dh];exact hv
theorem fq{bound:j5->j4->j4->Nat->Bool}{A:j5}{B:j7}{C:j4}(h:(be bound A B C).status=1):
 vG A B C=true/\xF A B C=some (be bound A B C)/\aG bound A B C (be bound A B C)=true/\(be bound A B C).Y.length=B.length/\o9 (be bound A B C).value=true/\∀k,k<(be bound A B C).Y.length->o9 ((be bound A B C).Y[k]?.getD (0,0))=true:=by
 cases ok:vG A B C with
 | false=>unfold be at h;rw[if_neg (by rw[ok];simp)]at h;cases h
 | true =>
   cases hr:xF A B C with
   | none =>
     have e:be bound A B C=aM 4:=by unfold be;rw[if_pos ok,hr]
     rw[e]at h;cases h
   | some r =>
     have e:be bound A B C=if aG bound A B C r=true then r else aM 4:=by unfold be;rw[if_pos ok,hr]
     by_cases hc:aG bound A B C r=true
     ·rw[if_pos hc]at e;rw[e]at h⊢;have:=Mp ok hr h;exact⟨rfl,rfl,hc,this⟩
     ·rw[if_neg hc]at e;rw[e]at h;cases h
theorem fK(p:Nat->Bool)(k:Nat):(List.range (k+1)).all p=((List.range k).all p&&p k):=by
 rw[List.range_succ,List.all_append];simp
theorem cX{p:Nat->Bool}(h:k<n)(hp:p k=false):(List.range n).all p=false:=by
 rw[List.all_eq_false];exact⟨k,List.mem_range.2 h,by simp[hp]⟩
theorem oW(x:Int)(w:World):Calls Tryz.prog 189 #[.int .i64 x] w fun e w'=>e=.returned (.bool (!r' x (-5000) 5000))/\w=w':=by
 go_enter Tryz.func189,Tryz.ntmps189
 go_wp2_with (first|(go_at_call 61;refine(aJ _ _ _ _).mono ?_;rintro e w' ⟨rfl,rfl⟩));go_ret;exact⟨rfl,rfl⟩
theorem ja:IsGo Tryz.prog 189:=isGo Tryz.func189 e9 e9
theorem ic(w:World):Eo Tryz.prog w 189 #[] (fun x=>!r' x (-5000) 5000) :=
 fun x w1 _=>(oW x w1).mono fun e w' ⟨he,hw⟩=>⟨he,hw▸Ext.refl _⟩
def dJ(m:Nat)(r:j7):Bool:=decide (r.length=m)&&r.all (r' · (-5000) 5000)
theorem ml(l:j7):l.any (fun x=>!r' x (-5000) 5000)=!l.all (r' · (-5000) 5000):=by rw[List.not_all_eq_any_not]
theorem iA(A:j5)(B:j7)(C:j4):vG A B C=(decide (C.length<=70)&&(decide (A.length<=8)&&(decide (B.length=A.length)&&(xC C&&(A.all (dJ C.length)&&B.all (r' · (-5000) 5000)))))):=rfl
theorem mP{p:j7->Bool}{l:j5}(h:k<l.length):(l.take (k+1)).all p=((l.take k).all p&&p (l[k]?.getD [])):=by
 rw[eT h];simp
theorem fX{p:j7->Bool}{l:j5}(h:k<l.length)(hb:p (l[k]?.getD [])=false):l.all p=false:=by
 rw[List.all_eq_false];exact⟨l[k],List.getElem_mem h,by rw[List.getElem?_eq_getElem h]at hb;simpa using hb⟩
section
variable{w:World}{a:j6}{na ca:Nat}{b:j6}{nb cb:Nat}{c:j6}{nc cc:Nat}{A:j5}{B:j7}{C:j4}
theorem ee(h:Bf w a na ca b nb cb c nc cc A B C):
 Calls Tryz.prog 128 #[Al a na ca b nb cb c nc cc] w fun e w'=>e=.returned (.bool (vG A B C))/\Ext w w':=by
 have uS:=Ext.alloc w (aV a na ca b nb cb c nc cc);have uV:=ae uS;have H:=ae (h.ext uS);have HE:=ae (iA A B C);have Iu:=h.a.l8;have It:=h.a.o0;have xL:=h.b.l8;have wU:=h.b.o0;have xB:=h.c.l8;have zC:=h.c.o0;have zk:=ae h.a.hlen;have xi:=ae h.b.hlen;have yw:=ae h.c.hlen;clear h uS;by_cases h1:nc<=70
 ·by_cases h2:na<=8
  ·by_cases h3:nb=na
   ·subst h3;have xS:((nb:Int) != (nb:Int))=false:=by simp
    have zz:=ae (show vG A B C=(xC C&&(A.all (dJ nc)&&B.all (r' · (-5000) 5000)))by
     rw[HE.o,zk.o,xi.o,yw.o,decide_eq_true h1,decide_eq_true h2,decide_eq_true rfl];rfl)
    have HV:=ae (lF H.o.c);cases hv:xC C
    ·rw[hv]at HV zz;clear hv;go_enter Tryz.func128,Tryz.ntmps128
     go_wp2_with fail;refine HV.o.mono ?_;rintro e w1 ⟨rfl,hx⟩;have X1:=ae (uV.o.trans hx);clear hx;go_wp2_with fail;go_ret;exact⟨ai zz.o.symm,X1.o⟩
    ·rw[hv]at HV zz;clear hv;go_enter Tryz.func128,Tryz.ntmps128
     go_wp2_with fail;refine HV.o.mono ?_;rintro e w1 ⟨rfl,hx⟩;have wK:w1.cell? ⟨w.heap.size,0,none⟩=some (.slice a nb ca):=hx.j9 e8;have I:w1.cell? ⟨w.heap.size,1,none⟩=some (.slice b nb cb):=hx.j9 e8;have E:w1.cell? ⟨w.heap.size,2,none⟩=some (.slice c nc cc):=hx.j9 e8;have Lv:=ae I;have W:=ae E;have H1:=ae (H.o.ext hx);have X1:=ae (uV.o.trans hx);clear hx I E;go_wp2_with fail
     go_loopg [34] nb (fun gk ii wr=>∃k:Nat,b7 (gk+k=nb)/\ii=.int .i64 (k:Int)/\b7 ((A.take k).all (dJ nc)=true)/\b7 (Ext w1 wr))
     case atStart=>exact⟨0,ae e7,rfl,ae rfl,ae (Ext.refl _)⟩
     case round =>
      obtain⟨g1,Q⟩:=b9 gk;subst Q;obtain⟨o8,U⟩:=b9 wr;subst U;obtain⟨k,J,rfl,HA,HX⟩:=hrel;clear wK;by_cases hlt:k<nb
      ·obtain⟨gb,D4,ra,rn,rc,Z,Nc,o7⟩:=(H1.o.ext HX.o).a.at hlt;subst Z;have E:=HX.o.j9 W.o;have K:=ae o7.hlen;have zu:=o7.l8;have S4:=o7.o0;have L1:=ae (show k<A.length by rw[zk.o];exact hlt);have G:=ae (ei o7 ja (ic _));clear o7;cases hl:((rn:Int) != (nc:Int))
       ·cases hr:(A[k]?.getD []).all (r' · (-5000) 5000)
        ·have HF:=ae (show vG A B C=false by
          rw[zz.o,fX L1.o (by unfold dJ;rw[hr];simp)];rfl)
         rw[ml,hr]at G;clear hr;go_wp2_with fail;refine G.o.mono ?_;rintro e w2 ⟨rfl,vL⟩;have X2:=ae ((X1.o.trans HX.o).trans vL);clear vL;go_wp2_with fail;go_ret;exact⟨ai HF.o.symm,X2.o⟩
        ·have HT:=ae (show(A.take (k+1)).all (dJ nc)=true by
          rw[mP L1.o,HA.o];unfold dJ;rw[hr,K.o];simp at hl⊢;omega)
         rw[ml,hr]at G;clear hr;go_wp2_with fail;refine G.o.mono ?_;rintro e w2 ⟨rfl,vL⟩;have X2:=ae (HX.o.trans vL);clear vL;go_wp2_with fail
         go_roundg (g1-1)
         case measure=>have:=J.o;omega
         case rel=>exact⟨k+1,ae (j1 J.o),by go_num,HT,X2⟩
       ·have HF:=ae (show vG A B C=false by
         rw[zz.o,fX L1.o (by unfold dJ;rw[K.o,decide_eq_false (by simp at hl;omega)];rfl)];rfl)
        go_wp2_with fail;go_ret;exact⟨ai HF.o.symm,X1.o.trans HX.o⟩
      ·have O:nb=k:=by have:=J.o;omega
       subst O;have HT:=ae (show A.all (dJ nc)=true by have:=HA.o;rwa [List.take_of_length_le (by rw[zk.o];exact Nat.le_refl _)]at this);have I:=HX.o.j9 Lv.o;have G:=ae (ei (H1.o.ext HX.o).b ja (ic _));rw[ml]at G;go_wp2_with fail;refine G.o.mono ?_;rintro e w2 ⟨rfl,vL⟩;have X2:=ae ((X1.o.trans HX.o).trans vL);clear vL;go_wp2_with fail;go_ret;exact⟨ai (by rw[zz.o,HT.o];simp),X2.o⟩
   ·have HF:=ae (show vG A B C=false by rw[HE.o,zk.o,xi.o,decide_eq_false h3];simp);have xS:((nb:Int) != (na:Int))=true:=by simp;omega
    go_enter Tryz.func128,Tryz.ntmps128
    go_wp2_with fail;go_ret;exact⟨ai HF.o.symm,uV.o⟩
  ·have HF:=ae (show vG A B C=false by rw[HE.o,zk.o,decide_eq_false h2];simp);go_enter Tryz.func128,Tryz.ntmps128
   go_wp2_with fail;go_ret;exact⟨ai HF.o.symm,uV.o⟩
 ·have HF:=ae (show vG A B C=false by rw[HE.o,yw.o,decide_eq_false h1];simp);go_enter Tryz.func128,Tryz.ntmps128
  go_wp2_with fail;go_ret;exact⟨ai HF.o.symm,uV.o⟩
end
end Go.Proofs.YtdadoignenffgaaGreatDoor
