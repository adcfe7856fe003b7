import Derived.Test.YtalmoolkhcgmmaaGreatNqAltG22
import Derived.Test.YtalmoolkhcgmmaaGreatNqAltG14
import Derived.Test.YtalmoolkhcgmmaaGreatNqAltG39
import Derived.Test.YtalmoolkhcgmmaaGreatNqAltG8
import Derived.Test.YtalmoolkhcgmmaaGreatNqAltG11
import Derived.Test.YtalmoolkhcgmmaaGreatNqAltG10
import Derived.Test.YtalmoolkhcgmmaaGreatNqAltG18
import Derived.Test.YtalmoolkhcgmmaaGreatNqAltG17
import Derived.Test.YtalmoolkhcgmmaaGreatNqAltG23
import Derived.Test.YtalmoolkhcgmmaaGreatNqAltG19
set_option linter.unusedVariables false
set_option linter.unusedSimpArgs false
namespace Go.Proofs.YtalmoolkhcgmmaaGreat
variable{w w1:World}{v KG:Value}{UY:j6}{base:Nat}
set_option maxHeartbeats 16000000
set_option maxRecDepth 100000
open Go.RowKit
def fY(w:World)(base:Nat)(e:Ending)(r:BK):Prop :=
 ∃pa pn pc sa sn sc,e=.returned (.agg #[.bool r.ok,.slice pa pn pc,.slice sa sn sc,.int .i64 r.rounds])/\l8 w base (.slice pa pn pc) r.pt/\xm Ae 62 w base (.slice sa sn sc) r.st
theorem fY.no(w:World)(base:Nat):fY w base (.returned (.agg #[.bool false,.slice none 0 0,.slice none 0 0,.int .i64 0])) BK.no :=
 ⟨Option.none,0,0,Option.none,0,0,rfl,l8.nil _ _,xm.nil _ _ _ _⟩
theorem Am{g:Nat}{a b c d:Value}{t:TypeId}(hb:w.heap[g]?=some (.cells #[a,b,c,d] t (0,0))):
 w.cell? ⟨g,0,none⟩=some a/\w.cell? ⟨g,1,none⟩=some b/\w.cell? ⟨g,2,none⟩=some c/\w.cell? ⟨g,3,none⟩=some d/\∀k,w.frozen? ⟨g,k,none⟩=false:=by
 refine⟨?_,?_,?_,?_,fun k=>frozen_of_row w g k _ _ hb⟩<;>rw[cell_of_row w g _ _ _ _ hb]<;>rfl
theorem Pe{W:World}{r:Nat}{x0 x1 x2 G:Value}{t:TypeId}(hb:W.heap[r]?=some (.cells #[x0,x1,x2,G] t (0,0)))(v0 v1 v2 v3:Value):
 ((((W.setCell ⟨r,0,none⟩ v0).setCell ⟨r,1,none⟩ v1).setCell ⟨r,2,none⟩ v2).setCell ⟨r,3,none⟩ v3).heap[r]?=some (.cells #[v0,v1,v2,v3] t (0,0)) /\
   ∀b,b≠r->((((W.setCell ⟨r,0,none⟩ v0).setCell ⟨r,1,none⟩ v1).setCell ⟨r,2,none⟩ v2).setCell ⟨r,3,none⟩ v3).heap[b]?=W.heap[b]?:=by
 have h1:=heap_setCell_same W r 0 _ t v0 hb;have h2:=heap_setCell_same _ r 1 _ t v1 h1;have h3:=heap_setCell_same _ r 2 _ t v2 h2;have h4:=heap_setCell_same _ r 3 _ t v3 h3;exact⟨h4,fun b zx=>(heap_setCell_other _ _ _ _ zx).trans ((heap_setCell_other _ _ _ _ zx).trans ((heap_setCell_other _ _ _ _ zx).trans (heap_setCell_other _ _ _ _ zx)))⟩
theorem Q7{W:World}{r:Nat}(hX:Ext w W)(hr:w.heap.size<=r)(v0 v1 v2 v3:Value):Ext w ((((W.setCell ⟨r,0,none⟩ v0).setCell ⟨r,1,none⟩ v1).setCell ⟨r,2,none⟩ v2).setCell ⟨r,3,none⟩ v3) :=
 (((hX.store 0 hr v0).store 1 hr v1).store 2 hr v2).store 3 hr v3
structure yr(W wr:World)(B:Nat)(vp vs vf:Value)(pt:j6)(L:j5)(fx:j9)(k:Nat):Prop where
 box:wr.heap[B]?=some (.cells #[.bool true,vp,vs,.int .i64 (k:Int)] 33 (0,0))
 pt:l8 wr (B+1) vp pt
 st:xm Ae 62 wr (B+1) vs L
 fx:o8 wr (B+1) vf fx
 ext:Ext W wr
 lo:W.heap.size<=B
section
variable{W wr w':World}{B:Nat}{vp vs vf:Value}{pt:j6}{L:j5}{fx:j9}{k:Nat}
theorem yr.grow(h:yr W wr B vp vs vf pt L fx k)(hx:Ext wr w'):yr W w' B vp vs vf pt L fx k:=⟨hx.blk h.box,h.pt.ext hx,h.st.ext hx,h.fx.ext hx,h.ext.trans hx,h.lo⟩
theorem yr.lt(h:yr W wr B vp vs vf pt L fx k):B<wr.heap.size:=lt_of_block h.box
theorem yr.off{v:Value}(h:∀k,v.ownBlock=some k->B+1<=k/\k<wr.heap.size)(j:Nat)(u:Value):∀k,v.ownBlock=some k->(wr.setCell ⟨B,j,none⟩ u).heap[k]?=wr.heap[k]?:=fun k hk=>heap_setCell_other _ _ _ _ (by have:=(h k hk).1;show k≠B;omega)
theorem yr.Sv(h:yr W wr B vp vs vf pt L fx k){KG:Value}{UY:j6}(hp:l8 wr (B+1) KG UY):yr W (wr.setCell ⟨B,1,none⟩ KG) B KG vs vf UY L fx k :=
 ⟨heap_setCell_same wr B 1 _ _ _ h.box,hp.keep (yr.off hp.lt 1 _),h.st.keep (yr.off h.st.lt 1 _),h.fx.keep (yr.off h.fx.lt 1 _),h.ext.store 1 h.lo _,h.lo⟩
theorem yr.VM(h:yr W wr B vp vs vf pt L fx k){k':Nat}{i:Int}(hi:i=(k':Int)):yr W (wr.setCell ⟨B,3,none⟩ (.int .i64 i)) B vp vs vf pt L fx k':=by
 subst hi;exact⟨heap_setCell_same wr B 3 _ _ _ h.box,h.pt.keep (yr.off h.pt.lt 3 _),h.st.keep (yr.off h.st.lt 3 _),h.fx.keep (yr.off h.fx.lt 3 _),h.ext.store 3 h.lo _,h.lo⟩
theorem yr.RN(h:yr W wr B vp vs vf pt L fx k){w1:World}(hx:Ext wr w1){G:Value}{I:j5}(hg:w1.grownBy w' vs.ownBlock)(ho:xm Ae 62 w' (B+1) G I):yr W (w'.setCell ⟨B,2,none⟩ G) B vp G vf pt I fx k:=by
 have hb:=(hg.block B (lt_of_block (hx.blk h.box)) (fun e=>by have:=(h.st.lt B e.symm).1;omega)).trans (hx.blk h.box);have h1:l8 w' (B+1) vp pt:=bW (h.pt.ext hx) (h.st.ext hx) (by decide) hg;have h2:o8 w' (B+1) vf fx:=bW (h.fx.ext hx) (h.st.ext hx) (by decide) hg;exact⟨heap_setCell_same w' B 2 _ _ _ hb,h1.keep (yr.off h1.lt 2 _),ho.keep (yr.off ho.lt 2 _),h2.keep (yr.off h2.lt 2 _),((h.ext.trans hx).grown hg (fun j hj=>by have:=(h.st.lt j hj).1;have:=h.lo;omega)).store 2 h.lo _,h.lo⟩
theorem yr.Yb(h:yr W wr B vp vs vf pt L fx k){w1:World}(hx:Ext wr w1){KG:Value}{UY:j6}(hg:w1.grownBy w' vp.ownBlock)(ho:l8 w' (B+1) KG UY):yr W (w'.setCell ⟨B,1,none⟩ KG) B KG vs vf UY L fx k:=by
 have hb:=(hg.block B (lt_of_block (hx.blk h.box)) (fun e=>by have:=(h.pt.lt B e.symm).1;omega)).trans (hx.blk h.box);have h1:xm Ae 62 w' (B+1) vs L:=bW (h.st.ext hx) (h.pt.ext hx) (by decide) hg;have h2:o8 w' (B+1) vf fx:=bW (h.fx.ext hx) (h.pt.ext hx) (by decide) hg;exact⟨heap_setCell_same w' B 1 _ _ _ hb,ho.keep (yr.off ho.lt 1 _),h1.keep (yr.off h1.lt 1 _),h2.keep (yr.off h2.lt 1 _),((h.ext.trans hx).grown hg (fun j hj=>by have:=(h.pt.lt j hj).1;have:=h.lo;omega)).store 1 h.lo _,h.lo⟩
theorem yr.Yc(h:yr W wr B vp vs vf pt L fx k){w1:World}(hx:Ext wr w1){G:Value}{I:j9}(hg:w1.grownBy w' vf.ownBlock)(ho:o8 w' (B+1) G I):yr W w' B vp vs G pt L I k:=by
 have hb:=(hg.block B (lt_of_block (hx.blk h.box)) (fun e=>by have:=(h.fx.lt B e.symm).1;omega)).trans (hx.blk h.box);have h1:l8 w' (B+1) vp pt:=bW (h.pt.ext hx) (h.fx.ext hx) (by decide) hg;have h2:xm Ae 62 w' (B+1) vs L:=bW (h.st.ext hx) (h.fx.ext hx) (by decide) hg;exact⟨hb,h1,h2,ho,(h.ext.trans hx).grown hg (fun j hj=>by have:=(h.fx.lt j hj).1;have:=h.lo;omega),h.lo⟩
end
structure zZ(lo:Nat)(w w':World):Prop where
 size:w.heap.size<=w'.heap.size
 block:∀k,lo<=k->k<w.heap.size->w'.heap[k]?=w.heap[k]?
def Off(lo hi:Nat)(v:Value):Prop:=∀k,v.ownBlock=some k->k<lo∨hi<=k
theorem Off.of{lo hi:Nat}(h:∀k,v.ownBlock=some k->base<=k/\k<w.heap.size)(hl:w.heap.size<=lo):Off lo hi v:=fun k hk=>Or.inl (j4 ((h k hk).2))
theorem Off.nil(lo hi n c:Nat):Off lo hi (.slice none n c):=fun k hk=>by cases hk
theorem Off.near{lo hi:Nat}{G:Value}(h:Off lo hi v)(hn:Aw w v G)(hs:hi<=w.heap.size):Off lo hi G:=fun k hk=>by
 rcases hn k hk with h1|h1
 ·exact h k h1
 ·exact Or.inr b9
section
variable{lo:Nat}{w w1 w2:World}
theorem zZ.refl(lo:Nat)(w:World):zZ lo w w:=⟨Nat.le_refl _,fun _ _ _=>rfl⟩
theorem zZ.ext(h:zZ lo w w1)(hx:Ext w1 w2):zZ lo w w2:=⟨Nat.le_trans h.size hx.size,fun k h1 h2=>(hx.block k (Nat.lt_of_lt_of_le h2 h.size)).trans (h.block k h1 h2)⟩
theorem zZ.grown(h:zZ lo w w1){v:Value}(hg:w1.grownBy w2 v.ownBlock)(ho:Off lo w.heap.size v):zZ lo w w2:=⟨Nat.le_trans h.size hg.size,fun k h1 h2=>(hg.block k (Nat.lt_of_lt_of_le h2 h.size) (fun e=>by have:=ho k e.symm;omega)).trans (h.block k h1 h2)⟩
theorem zZ.set(h:zZ lo w w1){B j:Nat}(hB:B<lo)(v:Value):zZ lo w (w1.setCell ⟨B,j,none⟩ v):=⟨by rw[World.size_setCell];exact h.size,fun k h1 h2=>(heap_setCell_other _ _ _ _ (by show k≠B;omega)).trans (h.block k h1 h2)⟩
theorem zZ.on(h:zZ lo w w1){P:World->Prop}(ho:On lo w P):On lo w1 P:=ho.keep h.size h.block
theorem zZ.blk(h:zZ lo w w1){g:Nat}{o:Obj}(hg:lo<=g)(hb:w.heap[g]?=some o):w1.heap[g]?=some o:=(h.block g hg (lt_of_block hb)).trans hb
theorem zZ.ints(h:zZ lo w w1){base:Nat}{v:Value}{l:j9}(hb:lo<=base)(ho:o8 w base v l):o8 w1 base v l:=ho.keep fun k hk=>h.block k (j4 ((ho.lt k hk).1)) (ho.lt k hk).2
end
theorem mo.lpc{e:Ending}{A:j7}{B:j9}{C:j6}{ok:Bool}(h:mo w base e A B C ok):
 ∃a na ca b nb cb c nc cc,e=.returned (.tuple #[C8 a na ca b nb cb c nc cc,.bool ok])/\Cz w a na ca b nb cb c nc cc A B C:=by
 obtain⟨va,vb,vc,vs,rfl,h1,h2,h3,h4,h5⟩:=h;obtain⟨a,na,ca,rfl,_⟩:=h1.var;obtain⟨b,nb,cb,rfl,_⟩:=h3.var;obtain⟨c,nc,cc,rfl,_⟩:=h4.var;exact⟨_,_,_,_,_,_,_,_,_,rfl,(show dI w base (.slice a na ca) A from⟨vs,h1,h2⟩).Fg,h3.ints,h4.wK⟩
theorem xm.EU{a:j8}{n cap:Nat}{L:j5}(h:xm Ae 62 w base (.slice a n cap) L):zk w a n cap L:=h.KR.EU
theorem sS(x:Int)(P:j5)(t:Int×Int×Int):(x::P.map fun f=>f.1)++[t.1]=x::(P++[t]).map fun f=>f.1:=by simp
theorem M8{V:j9}{L:j5}{s:Int}(hs:s<=1000)(h:∀f∈L,f.1<=1000):∀k:Nat,(s::L.map (·.1))[k]?.getD 0<=9223372036854775807:=by
 intro k;by_cases hk:k<(s::L.map (·.1)).length
 ·rw[List.getElem?_eq_getElem hk,Option.getD_some];have hm:=List.getElem_mem hk
  rcases List.mem_cons.1 hm with e|e
  ·rw[e];omega
  ·obtain⟨f,hf,he⟩:=List.mem_map.1 e;rw[<-he];have:=h f hf;omega
 ·rw[List.getElem?_eq_none b9];decide
theorem iL{α:Type}{p:α->Bool}{l:List α}{k:Nat}{d:α}(h:k<l.length):(l.take (k+1)).all p=((l.take k).all p&&p (l[k]?.getD d)):=by
 rw[List.take_succ_eq_append_getElem h,List.all_append,List.getElem?_eq_getElem h];simp
theorem fZ{α:Type}{p:α->Bool}{l:List α}{k:Nat}{d:α}(h:k<l.length)(hb:p (l[k]?.getD d)=false):l.all p=false:=by
 rw[List.all_eq_false];exact⟨l[k],List.getElem_mem h,by rw[List.getElem?_eq_getElem h]at hb;simpa using hb⟩
theorem pA{a:j8}{n cap:Nat}{l:j9}(h:Ints w a n cap l):
 Calls Tryz.prog 124 #[.slice a n cap] w fun e w'=>e=.returned (.bool (l.all (wJ · (-5000) 5000)))/\w=w':=by
 have o3:=h.o3;have l9:=h.l9;have HL:=ae h.hlen;have HI:=ae h;clear h;go_enter Tryz.func124,Tryz.ntmps124
 go_wp2_with fail
 go_loopg [3] n (fun gk ii wr=>∃k:Nat,b7 (gk+k=n)/\ii=.int .i64 (k:Int)/\b7 ((l.take k).all (wJ · (-5000) 5000)=true)/\w=wr)
 case atStart=>exact⟨0,ae b9,rfl,ae rfl,rfl⟩
 case round =>
  obtain⟨k,G,rfl,HA,rfl⟩:=hrel;by_cases hlt:k<n
  ·obtain⟨b,off,rfl,y5⟩:=HI.o.at hlt;obtain⟨x,hx⟩:=b8 (l[k]?.getD 0);rw[<-hx]at y5;have HC:=ae (bG x (-5000) 5000 w);cases hb:wJ x (-5000) 5000
   all_goals
    rw[hb]at HC
   ·have HF:=ae (show l.all (wJ · (-5000) 5000)=false from fZ (d:=0) (by rw[HL.o];exact hlt) (by rw[<-hx];exact hb));clear hx hb;go_wp2_with (first|(go_at_call 74;refine HC.o.mono ?_;rintro e w2 ⟨rfl,rfl⟩));go_ret;exact⟨ag HF.o.symm,rfl⟩
   ·have HT:=ae (show(l.take (k+1)).all (wJ · (-5000) 5000)=true by rw[iL (d:=0) (by rw[HL.o];exact hlt),HA.o,<-hx,hb];rfl);clear hx hb;go_wp2_with (first|(go_at_call 74;refine HC.o.mono ?_;rintro e w2 ⟨rfl,rfl⟩))
    go_roundg (gk-1)
    case measure=>have:=G.o;omega
    case rel=>exact⟨k+1,ae (j4 G.o),by go_num,HT,rfl⟩
  ·have HT:=ae (show l.take k=l from List.take_of_length_le (by rw[HL.o];have:=G.o;omega));go_wp2_with fail;go_ret;exact⟨ag (by have:=HA.o;rw[HT.o]at this;exact this.symm),rfl⟩
section
variable{w:World}{a:j8}{na ca:Nat}{b:j8}{nb cb:Nat}{c:j8}{nc cc:Nat}{A:j7}{B:j9}{C:j6}
theorem ke{A:j7}{B:j9}{C:j6}(h:A.all (dR C.length)=false):xF A B C=false:=by rw[jr,h];simp
theorem eg(h:Cz w a na ca b nb cb c nc cc A B C):
 Calls Tryz.prog 80 #[C8 a na ca b nb cb c nc cc] w fun e w'=>e=.returned (.bool (xF A B C))/\Ext w w':=by
 have wI:=Ext.alloc w (bE a na ca b nb cb c nc cc);have wM:=ae wI;have H:=ae (h.ext wI);have HE:=ae (jr A B C);have J:=ae (show(w.alloc (bE a na ca b nb cb c nc cc)).heap[w.heap.size]?=some (.cells #[.slice a na ca,.slice b nb cb,.slice c nc cc] 52 (0,0))from ak _ _ _ rfl);have Ke:=h.a.o3;have ES:=h.a.l9;have zN:=h.b.o3;have zx:=h.b.l9;have yq:=h.c.o3;have AZ:=h.c.l9;have u:=ae h.a.hlen;have y4:=ae h.b.hlen;have z8:=ae h.c.hlen;clear h wI;go_enter Tryz.func80,Tryz.ntmps80
 go_upto_region 1 with fail;obtain⟨W,hW⟩:=b8 (w.alloc (bE a na ca b nb cb c nc cc));rw[<-hW]at wM H J;rw[<-hW];clear hW;go_wp2_with fail
 go_loopg [3] na (fun gk ii wr=>∃k:Nat,b7 (gk+k=na)/\ii=.int .i64 (k:Int)/\b7 ((A.take k).all (dR nc)=true)/\b7 (Ext W wr))
 case atStart=>exact⟨0,ae b9,rfl,ae rfl,ae (Ext.refl _)⟩
 case round =>
  obtain⟨g1,r7⟩:=b8 gk;subst r7;obtain⟨G,o6⟩:=b8 wr;subst o6;obtain⟨k,Z,rfl,HA,HX⟩:=hrel;have p0:=au (HX.o.blk J.o);have p2:=aI (HX.o.blk J.o);by_cases hlt:k<na
  ·obtain⟨O,U,ra,rn,rc,Ol,R,o9⟩:=(H.o.ext HX.o).a.at hlt;subst Ol;have zy:=ae o9.hlen;have BF:=o9.o3;have WJ:=o9.l9;have OO:=ae (show k<A.length by rw[u.o];exact hlt);have Ay:=ae o9;have FF:(0:Int)<=(k:Int):=by omega
   have BH:(k:Int)<(na:Int):=by omega
   clear o9;go_upto_region 4 with fail;have k7:Ext G G.drew:=Ext.drew G;by_cases hl:rn=nc
   ·subst hl;have hne:((rn:Int) != (rn:Int))=false:=by simp
    obtain⟨sm,hsm⟩:=b8 ((A[k]?.getD []).all (wJ · (-5000) 5000));have I:=ae (show dR rn (A[k]?.getD [])=sm by unfold dR;rw[zy.o,hsm];simp);have Km:=ae (fun(W':World) (hx:Ext G W')=>pA (Ay.o.ext hx));simp only[<-hsm]at Km;clear hsm;refine wp_region_held_drew (S:=(fun w'=>w'.cell? ⟨w.heap.size,0,none⟩=some (.slice (some ⟨O,U,none⟩) na ca)/\w'.cell? ⟨w.heap.size,2,none⟩=some (.slice c rn cc)/\w'.cell? ⟨O,U+k,none⟩=some (.slice ra rn rc)/\Ext G w')) e8 ?_ (fun k9=>?_)
    ·exact⟨k7.k6 p0,k7.k6 p2,k7.k6 R,k7⟩
    refine tk 0 ?_;refine tk 1 ?_;refine tk 2 ?_;refine tk 3 ?_;refine tk 4 ?_;refine tk 5 ?_;refine tk 6 ?_;refine tk 7 ?_;refine tk 8 ?_;refine tk 9 ?_;refine tk 10 ?_;refine tk 11 ?_;refine tk 12 ?_;refine tk 13 ?_;refine tk 14 ?_;refine tk 15 ?_;refine rd (i:=16) (h:=fun K hK=>?_);go_simp
    (go_at_call 124;refine(Km.o _ k7).mono ?_;rintro e w3 ⟨rfl,rfl⟩)
    go_wp2_with fail;refine hK.out _ _ ?_ (fun k9=>?_)
    ·exact⟨k7.k6 p0,k7.k6 p2,k7.k6 R,k7⟩
    clear hK K
    try simp only[Act.put,sA,sB,sC]
    refine tk 17 ?_;refine tk 18 ?_;refine wpAnyH_done e8 ?_ _;have xZ:=ae (HX.o.trans k7);clear p0 p2 R k7;cases sm
    ·have HF:=ae (show xF A B C=false from ke (ib OO.o (by rw[z8.o];exact I.o)));go_wp2_with fail;go_ret;exact⟨ag HF.o.symm,wM.o.trans xZ.o⟩
    ·have HT:=ae (show(A.take (k+1)).all (dR rn)=true by rw[oy OO.o,HA.o,I.o];rfl);go_wp2_with fail
     go_roundg (g1-1)
     case measure=>have:=Z.o;omega
     case rel=>exact⟨k+1,ae (j4 Z.o),by go_num,HT,xZ⟩
   ·have hne:((rn:Int) != (nc:Int))=true:=by simp;omega
    have HF:=ae (show xF A B C=false from ke (ib OO.o (by unfold dR;rw[zy.o,z8.o,decide_eq_false hl];rfl)));clear hl;refine wp_region_held_drew (S:=(fun w'=>w'.cell? ⟨w.heap.size,0,none⟩=some (.slice (some ⟨O,U,none⟩) na ca)/\w'.cell? ⟨w.heap.size,2,none⟩=some (.slice c nc cc)/\w'.cell? ⟨O,U+k,none⟩=some (.slice ra rn rc)/\Ext G w')) e8 ?_ (fun k9=>?_)
    ·exact⟨k7.k6 p0,k7.k6 p2,k7.k6 R,k7⟩
    refine tk 0 ?_;refine tk 1 ?_;refine tk 2 ?_;refine tk 3 ?_;refine tk 4 ?_;refine tk 5 ?_;refine tk 6 ?_;refine tk 7 ?_;refine tk 8 ?_;refine tk 9 ?_;refine tk 10 ?_;refine sk 11 ?_;refine sk 12 ?_;refine sk 13 ?_;refine sk 14 ?_;refine sk 15 ?_;refine sk 16 ?_;refine sk 17 ?_;refine tk 18 ?_;refine wpAnyH_done e8 ?_ _;go_wp2_with fail;go_ret;exact⟨ag HF.o.symm,wM.o.trans (HX.o.trans k7)⟩
  ·have xQ:na=k:=by have:=Z.o;omega
   subst xQ;have HT:=ae (show A.all (dR nc)=true by have:=HA.o;rwa [List.take_of_length_le (by rw[u.o];exact Nat.le_refl _)]at this);have p1:=aH (HX.o.blk J.o)
   have AE:=ae (show xF A B C=(decide (nc<=70)&&(decide (na<=8)&&(decide (nb=na)&&(B.all (wJ · (-5000) 5000)&&yz C))))by
    rw[HE.o,u.o,y4.o,z8.o,HT.o];cases yz C<;>simp)
   by_cases h1:nc<=70
   ·by_cases h2:na<=8
    ·by_cases h3:nb=na
     ·subst h3;have zd:((nb:Int) == (nb:Int))=true:=by simp
      have Tj:(nc:Int)<=70:=by omega
      have Xg:(nb:Int)<=8:=by omega
      have Km:=ae (pA (H.o.ext HX.o).b);have Fw:=ae (ik (H.o.ext HX.o).c);cases hs:B.all (wJ · (-5000) 5000)
      ·have HF:=ae (show xF A B C=false by rw[AE.o,hs];simp);rw[hs]at Km;clear hs;go_wp2_with fail;refine Km.o.mono ?_;rintro e w3 ⟨rfl,rfl⟩;go_wp2_with fail;go_ret;exact⟨ag HF.o.symm,wM.o.trans HX.o⟩
      ·have HF:=ae (show xF A B C=yz C by rw[AE.o,hs,decide_eq_true h1,decide_eq_true h2,decide_eq_true rfl];rfl);rw[hs]at Km;clear hs;go_wp2_with fail;refine Km.o.mono ?_;rintro e w3 ⟨rfl,rfl⟩;go_wp2_with fail;refine Fw.o.mono ?_;rintro e w3 ⟨rfl,hx⟩;go_wp2_with fail;go_ret;exact⟨ag HF.o.symm,wM.o.trans (HX.o.trans hx)⟩
     ·have HF:=ae (show xF A B C=false by rw[AE.o,decide_eq_false h3];simp);have zd:((nb:Int) == (na:Int))=false:=by simp;omega
      have Tj:(nc:Int)<=70:=by omega
      have Xg:(na:Int)<=8:=by omega
      go_wp2_with fail;go_ret;exact⟨ag HF.o.symm,wM.o.trans HX.o⟩
    ·have HF:=ae (show xF A B C=false by rw[AE.o,decide_eq_false h2];simp);have Tj:(nc:Int)<=70:=by omega
     have Xg:¬(na:Int)<=8:=by omega
     go_wp2_with fail;go_ret;exact⟨ag HF.o.symm,wM.o.trans HX.o⟩
   ·have HF:=ae (show xF A B C=false by rw[AE.o,decide_eq_false h1];simp);have Tj:¬(nc:Int)<=70:=by omega
    go_wp2_with fail;go_ret;exact⟨ag HF.o.symm,wM.o.trans HX.o⟩
end
end Go.Proofs.YtalmoolkhcgmmaaGreat
