import Derived.Test.YtdadoignenffgaaGreatDoorSvAllG3
import Derived.Test.YtdadoignenffgaaGreatDoorSvAllG8
import Derived.Test.YtdadoignenffgaaGreatDoorSvAllG6
import Derived.Test.YtdadoignenffgaaGreatDoorSvAllG5
import Derived.Test.YtdadoignenffgaaGreatDoorSvAllG7
import Derived.Test.YtdadoignenffgaaGreatDoorSvAllG1
set_option linter.unusedVariables false
set_option linter.unusedSimpArgs false
namespace Go.Proofs.YtdadoignenffgaaGreatDoor
variable{w w' w1 w2:World}{base N G i n g b k base' b1 b2:Nat}{a:j6}{vs:List Value}{M L:j5}{v v' x y z:Value}{α:Type}{t:TypeId}
set_option maxHeartbeats 16000000
open Go.RowKit
structure zd(w:World)(base:Nat)(a:j6)(N cap:Nat)(vs:List Value)(M:j5):Prop where
 own:vv w base (.slice a N cap) vs
 rows:bu w base vs M
theorem zd.yy{cap:Nat}(h:zd w base a N cap vs M):vs.length=N:=h.own.len
theorem zd.len{cap:Nat}(h:zd w base a N cap vs M):M.length=N:=by rw[<-h.rows.len];exact h.own.len
theorem zd.cap{w:World}{base:Nat}{a:j6}{N cap:Nat}{vs:List Value}{M:j5}(h:zd w base a N cap vs M):N<=cap/\cap<=9223372036854775807:=by
 obtain⟨a',c',he,h1,h2⟩:=h.own.form;simp only[Value.slice.injEq]at he;obtain⟨_,h3,rfl⟩:=he;exact⟨by omega,h2⟩
theorem zd.ext{cap:Nat}(h:zd w base a N cap vs M)(hx:Ext w w'):zd w' base a N cap vs M:=⟨h.own.ext hx,h.rows.ext hx⟩
theorem zd.DC{cap:Nat}(h:zd w base a N cap vs M):dV w a N cap M :=
 cV.DC ⟨vs,h.own,h.rows⟩
theorem zd.outer{cap:Nat}(h:zd w base a N cap vs M)(hN:0<N):∃G,a=some ⟨G,0,none⟩/\base<=G/\G<w.heap.size/\∀j,w.frozen? ⟨G,j,none⟩=false:=by
 rcases h.own.2 with⟨he,h0⟩|⟨g,cap',cur,he,hb,hg,_⟩
 ·simp only[Value.slice.injEq]at he;omega
 ·simp only[Value.slice.injEq]at he;obtain⟨rfl,_⟩:=he;exact⟨g,rfl,hb,lt_of_block hg,fun j=>frozen_of_row w g j cur _ hg⟩
theorem zd.row{cap:Nat}(h:zd w base (some ⟨G,0,none⟩) N cap vs M)(hi:i<N)(hn:(M[i]?.getD []).length=n)(h1:1<=n):
 ∃g c,vs[i]?.getD undef=.slice (some ⟨g,0,none⟩) n c/\w.cell? ⟨G,i,none⟩=some (.slice (some ⟨g,0,none⟩) n c)/\o5 w base (.slice (some ⟨g,0,none⟩) n c) (M[i]?.getD [])/\g≠G/\base<=g/\g<w.heap.size/\n<=c/\c<=9223372036854775807:=by
 have hr:=h.rows.row i (by rw[h.len];exact hi);obtain⟨a',c,he,xB,I⟩:=hr.form;rw[he]at hr;rw[hn]at he hr xB;obtain⟨g,rfl,hb,_,J⟩:=hr.block (k:=0) e7;obtain⟨G',E,_,hc⟩:=h.own.cell hi;simp only[Option.some.injEq,Addr.mk.injEq,and_true]at E;subst E;refine⟨g,c,he,?_,hr,fun e=>hr.apart h.own g rfl (by subst e;rfl),hb,J,xB,I⟩;rw[hc i hi,<-he];have:i<vs.length:=by rw[h.yy];exact hi
 simp[this]
theorem zd.Ck{cap:Nat}(h:zd w base (some ⟨G,0,none⟩) N cap vs M){c:Nat}(hi:i<N)(hv:vs[i]?.getD undef=.slice (some ⟨g,0,none⟩) n c)(j:Nat)(x:Int):
 zd (w.setCell ⟨g,j,none⟩ (.int .i64 x)) base (some ⟨G,0,none⟩) N cap vs (M.set i ((M[i]?.getD []).set j x)):=by
 have Ar:i<M.length:=by rw[h.len];exact hi
 have hr:=h.rows.row i Ar;rw[hv]at hr;have hgG:g≠G:=fun e=>hr.apart h.own g rfl (by subst e;rfl)
 refine⟨h.own.keep fun k hk=>heap_setCell_other _ _ _ _ (by simp only[Value.ownBlock,Option.some.injEq]at hk;show k≠g;omega),?_⟩;refine⟨by rw[List.length_set];exact h.rows.len,fun k hk=>?_,fun a b k Ku hb=>h.rows.apart a b k Ku (by rw[List.length_set]at hb;exact hb)⟩;rw[List.length_set]at hk;by_cases E:k=i
 ·subst E;rw[hv,List.getElem?_set_self Ar];exact hr.set j x
 ·rw[List.getElem?_set_ne (Ne.symm E)];refine(h.rows.row k hk).keep fun b hb=>heap_setCell_other _ _ _ _ fun e=>?_
  subst e
  rcases Nat.lt_or_gt_of_ne E with hlt|hlt
  ·exact h.rows.apart k i _ hlt Ar hb (by rw[hv];rfl)
  ·exact h.rows.apart i k _ hlt hk (by rw[hv];rfl) hb
theorem zd.put{w0:World}{cap:Nat}(h:zd w0 base (some ⟨G,0,none⟩) N cap vs M)(hx:Ext w0 w)(hb:base<=w0.heap.size){l:j7}(E:o5 w w0.heap.size v l)(hi:i<N):
 zd (w.setCell ⟨G,i,none⟩ v) base (some ⟨G,0,none⟩) N cap (vs.set i v) (M.set i l):=by
 have Ar:i<M.length:=by rw[h.len];exact hi
 have Ot:i<vs.length:=by rw[h.yy];exact hi
 have hW:=h.ext hx;obtain⟨G',K,CB,Hl,_⟩:=h.outer e7;simp only[Option.some.injEq,Addr.mk.injEq,and_true]at K;subst K;have AQ:∀k,k≠G->(w.setCell ⟨G,i,none⟩ v).heap[k]?=w.heap[k]?:=fun k hk=>heap_setCell_other _ _ _ _ hk
 refine⟨?_,⟨by rw[List.length_set,List.length_set];exact h.rows.len,fun k hk=>?_,fun a b k Ku wU hk k7=>?_⟩⟩
 ·have E:=hW.own;unfold vv at E;rw[hW.yy]at E;have:=(World.ownsRow.stored E i v).1;unfold vv;rw[List.length_set,hW.yy];exact this
 ·rw[List.length_set]at hk;by_cases J:k=i
  ·subst J;rw[List.getElem?_set_self Ot,List.getElem?_set_self Ar];exact(E.keep fun b Hi=>AQ b (j1 ((E.lt b Hi).1))).mono hb
  ·rw[List.getElem?_set_ne (Ne.symm J),List.getElem?_set_ne (Ne.symm J)];refine(hW.rows.row k hk).keep fun b Hi=>AQ b fun e=>?_
   subst e;exact(hW.rows.row k hk).apart hW.own _ Hi rfl
 ·rw[List.length_set]at wU;by_cases I:a=i
  ·subst I;rw[List.getElem?_set_self Ot]at hk;rw[List.getElem?_set_ne e7]at k7;have h1:=(E.lt k hk).1;have h2:=((h.rows.row b wU).lt k k7).2;omega
  ·rw[List.getElem?_set_ne (Ne.symm I)]at hk;by_cases O:b=i
   ·subst O;rw[List.getElem?_set_self Ot]at k7;have h1:=(E.lt k k7).1;have h2:=((h.rows.row a e7).lt k hk).2;omega
   ·rw[List.getElem?_set_ne (Ne.symm O)]at k7;exact h.rows.apart a b k Ku wU hk k7
def FL(l:List Value)(a b:Nat):List Value:=(l.set a (l[b]?.getD undef)).set b (l[a]?.getD undef)
theorem qp(l:List Value)(a b:Nat):(FL l a b).length=l.length:=by simp[FL]
theorem iD{l:List Value}{a:Nat}(ha:a<l.length)(hb:b<l.length)(i:Nat):(FL l a b)[i]?.getD undef=if i=b then l[a]?.getD undef else if i=a then l[b]?.getD undef else l[i]?.getD undef:=by
 unfold FL;by_cases h1:i=b
 ·subst h1;rw[if_pos rfl,List.getElem?_set_self (by simp[hb])];rfl
 ·rw[if_neg h1,List.getElem?_set_ne (Ne.symm h1)];by_cases h2:i=a
  ·subst h2;rw[if_pos rfl,List.getElem?_set_self ha];rfl
  ·rw[if_neg h2,List.getElem?_set_ne (Ne.symm h2)]
theorem bu.apart'(h:bu w base vs L){j:Nat}(I:i≠j)(hi:i<L.length)(E:j<L.length)(hk:(vs[i]?.getD undef).ownBlock=some k):(vs[j]?.getD undef).ownBlock≠some k:=by
 rcases Nat.lt_or_gt_of_ne I with h1|h1
 ·exact h.apart i j k h1 E hk
 ·exact fun e=>h.apart j i k h1 hi e hk
theorem zd.swap{cap:Nat}(h:zd w base (some ⟨G,0,none⟩) N cap vs M){a:Nat}(ha:a<N)(hb:b<N):
 zd ((w.setCell ⟨G,a,none⟩ (vs[b]?.getD undef)).setCell ⟨G,b,none⟩ (vs[a]?.getD undef)) base (some ⟨G,0,none⟩) N cap (FL vs a b) (swp M a b):=by
 have YO:a<M.length:=by rw[h.len];exact ha
 have LL:b<M.length:=by rw[h.len];exact hb
 have PG:a<vs.length:=by rw[h.yy];exact ha
 have xK:b<vs.length:=by rw[h.yy];exact hb
 have o7:∀i,i<M.length->(swp M a b)[i]?.getD []=if i=b then M[a]?.getD [] else if i=a then M[b]?.getD [] else M[i]?.getD []:=fun i _=>hU YO LL i
 have AQ:∀k,k≠G->((w.setCell ⟨G,a,none⟩ (vs[b]?.getD undef)).setCell ⟨G,b,none⟩ (vs[a]?.getD undef)).heap[k]?=w.heap[k]?:=fun k hk=>by rw[heap_setCell_other _ _ _ _ hk,heap_setCell_other _ _ _ _ hk]
 refine⟨?_,⟨by rw[qp,cI];exact h.rows.len,fun i hi=>?_,fun i j k Hg hj hk k7=>?_⟩⟩
 ·have E:=h.own;unfold vv at E;rw[h.yy]at E;have h1:=(World.ownsRow.stored E a (vs[b]?.getD undef)).1;have h2:=(World.ownsRow.stored h1 b (vs[a]?.getD undef)).1;unfold vv;rw[qp,h.yy];exact h2
 ·rw[cI]at hi;have key:∀k,k<M.length->o5 ((w.setCell ⟨G,a,none⟩ (vs[b]?.getD undef)).setCell ⟨G,b,none⟩ (vs[a]?.getD undef)) base (vs[k]?.getD undef) (M[k]?.getD []):=fun k hk =>
   (h.rows.row k hk).keep fun c hc=>AQ c fun e=>by subst e;exact(h.rows.row k hk).apart h.own _ hc rfl
  rw[iD PG xK,o7 i hi]
  split
  ·exact key a YO
  ·split
   ·exact key b LL
   ·exact key i hi
 ·rw[cI]at hj;rw[iD PG xK]at hk k7;have hi:i<M.length:=by omega
  have pick:∀i,i<M.length->∃s,s<M.length/\(if i=b then vs[a]?.getD undef else if i=a then vs[b]?.getD undef else vs[i]?.getD undef)=vs[s]?.getD undef/\s=(if i=b then a else if i=a then b else i):=fun i hi=>by
   split
   ·exact⟨a,YO,rfl,rfl⟩
   ·split
    ·exact⟨b,LL,rfl,rfl⟩
    ·exact⟨i,hi,rfl,rfl⟩
  obtain⟨s,hs,e1,J⟩:=pick i hi;obtain⟨t,ht,e2,I⟩:=pick j hj;rw[e1]at hk;rw[e2]at k7;refine h.rows.apart' (i:=s) (j:=t) ?_ hs ht hk k7;rw[J,I]
  split<;>split<;>(try split)<;>(try split)<;>omega
theorem bu.CD(h:bu w base vs L){us:List Value}(hv:vv w base' v us)(hg:w.grownBy w' v.ownBlock):bu w' base vs L :=
 h.keep fun i k hi hk=>hg.block k ((h.row i hi).lt k hk).2 fun e=>(h.row i hi).apart hv k hk e.symm
theorem dV.at'{cap:Nat}(h:dV w (some ⟨G,0,none⟩) N cap L)(hk:k<N):
 ∃a m c,w.cell? ⟨G,k,none⟩=some (.slice a m c)/\Ints w a m c (L[k]?.getD []):=by
 obtain⟨b,off,a,m,c,he,hc,hr⟩:=h.at hk;simp only[Option.some.injEq,Addr.mk.injEq,and_true]at he;obtain⟨rfl,rfl⟩:=he;rw[Nat.zero_add]at hc;exact⟨a,m,c,hc,hr⟩
theorem dV.QE{cap:Nat}(h:dV w (some ⟨G,0,none⟩) N cap L){d:Nat}(hd:d<=N):dV w (if cap=d then some ⟨G,0,none⟩ else some ⟨G,d,none⟩) (N-d) (cap-d) (L.drop d):=by
 refine⟨by rw[List.length_drop,h.hlen],by have:=h.l8;omega,by have:=h.o0;omega,fun k hk=>?_⟩;have hc:¬cap=d:=by have:=h.l8;omega
 rw[if_neg hc];refine⟨G,d,rfl,fun k hk=>?_⟩;obtain⟨a,m,c,h1,h2⟩:=h.at' (k:=d+k) e7;refine⟨a,m,c,h1,?_⟩;rw[List.getElem?_drop];exact h2
theorem Ext.store(h:Ext w w')(k:Nat)(hb:w.heap.size<=b)(v:Value):Ext w (w'.setCell ⟨b,k,none⟩ v):=Below.setCell h (p:=⟨b,k,none⟩) hb v
theorem Ext.grown{w0:World}{row:Option Nat}(h:Ext w0 w)(hg:w.grownBy w' row)(hr:∀k,row=some k->w0.heap.size<=k):Ext w0 w':=ak h hg hr
def Be(vs:List Value)(v:Value):Prop:=∀i k,i<vs.length->(vs[i]?.getD undef).ownBlock=some k->v.ownBlock≠some k
theorem Be.nil(v:Value):Be [] v:=fun i k h=>absurd h e8
theorem Be.near{A:j5}(h:Be vs v)(hr:bu w base vs A)(hn:y9 w v v'):Be vs v':=by
 intro i k hi hk Bn
 rcases hn k Bn with h1|h1
 ·exact h i k hi hk h1
 ·have:=((hr.row i (by rw[<-hr.len];exact hi)).lt k hk).2;omega
theorem Be.snoc{B r:j7}{I:Value}(h:Be vs v)(hb:o5 w base v B)(hr:o5 w' w.heap.size I r):Be (vs++[I]) v:=by
 intro i k hi hk Bn;by_cases hl:i<vs.length
 ·rw[List.getElem?_append_left hl]at hk;exact h i k hl hk Bn
 ·have E:i=vs.length:=by simp at hi;omega
  subst E;rw[List.getElem?_concat_length,Option.getD_some]at hk;have h1:=(hb.lt k Bn).2;have h2:=(hr.lt k hk).1;omega
structure vz(w:World)(base g:Nat)(va vb vc:Value)(vs:List Value)(A:j5)(B:j7)(C:j4):Prop where
 box:w.heap[g]?=some (.cells #[va,vb,vc] 68 (0,0))
 hg:base<=g
 a:vv w base va vs
 rows:bu w base vs A
 b:o5 w base vb B
 off:Be vs vb
 c:l9 w base vc C
section
variable{w:World}{base g:Nat}{va vb vc:Value}{vs:List Value}{A:j5}{B:j7}{C:j4}
theorem vz.lt(h:vz w base g va vb vc vs A B C):g<w.heap.size:=lt_of_block h.box
theorem vz.ext{w':World}(h:vz w base g va vb vc vs A B C)(hx:Ext w w'):vz w' base g va vb vc vs A B C :=
 ⟨(hx.block _ h.lt).trans h.box,h.hg,h.a.ext hx,h.rows.ext hx,h.b.ext hx,h.off,h.c.ext hx⟩
theorem vz.c0(h:vz w base g va vb vc vs A B C):w.cell? ⟨g,0,none⟩=some va:=by rw[cell_of_row w g 0 _ _ _ h.box];rfl
theorem vz.c1(h:vz w base g va vb vc vs A B C):w.cell? ⟨g,1,none⟩=some vb:=by rw[cell_of_row w g 1 _ _ _ h.box];rfl
theorem vz.c2(h:vz w base g va vb vc vs A B C):w.cell? ⟨g,2,none⟩=some vc:=by rw[cell_of_row w g 2 _ _ _ h.box];rfl
theorem vz.free(h:vz w base g va vb vc vs A B C)(k:Nat):w.frozen? ⟨g,k,none⟩=false:=frozen_of_row w g k _ _ h.box
theorem vz.new{w:World}{base:Nat}(hb:base<=w.heap.size):vz (w.alloc (.cells #[.slice none 0 0,.slice none 0 0,.slice none 0 0] 68)) base w.heap.size (.slice none 0 0) (.slice none 0 0) (.slice none 0 0) [] [] [] [] :=
 ⟨heap_alloc_new _ _,hb,vv.nil _ _,bu.nil _ _,o5.nil _ _,Be.nil _,l9.nil _ _⟩
theorem vz.ym{x y z:Value}(h:w.heap[g]?=some (.cells #[x,y,z] 68 (0,0))):w.cell? ⟨g,0,none⟩=some x:=by rw[cell_of_row w g 0 _ _ _ h];rfl
theorem vz.yk{x y z:Value}(h:w.heap[g]?=some (.cells #[x,y,z] 68 (0,0))):w.cell? ⟨g,1,none⟩=some y:=by rw[cell_of_row w g 1 _ _ _ h];rfl
theorem vz.yj{x y z:Value}(h:w.heap[g]?=some (.cells #[x,y,z] 68 (0,0))):w.cell? ⟨g,2,none⟩=some z:=by rw[cell_of_row w g 2 _ _ _ h];rfl
theorem vz.y8{x y z:Value}(h:w.heap[g]?=some (.cells #[x,y,z] 68 (0,0)))(k:Nat):w.frozen? ⟨g,k,none⟩=false:=frozen_of_row w g k _ _ h
theorem vz.neA(h:vz w base g va vb vc vs A B C):some g≠va.ownBlock:=an h.a h.box (by decide)
theorem vz.neB(h:vz w base g va vb vc vs A B C):some g≠vb.ownBlock:=an h.b h.box (by decide)
theorem vz.neC(h:vz w base g va vb vc vs A B C):some g≠vc.ownBlock:=an h.c h.box (by decide)
theorem vz.store{w w':World}{k:Nat}{v:Value}(hb:w.heap[g]?=some (.cells #[va,vb,vc] 68 (0,0))):(w.setCell ⟨g,k,none⟩ v).heap[g]?=some (.cells (#[va,vb,vc].setIfInBounds k v) 68 (0,0)):=heap_setCell_same w g k _ _ v hb
theorem vz.Ch{w1 w2:World}(h:vz w base g va vb vc vs A B C)(hx:Ext w w1){I E:Value}{r:j7}(hr:o5 w1 w.heap.size I r)(O:base<=w.heap.size)(J:w1.grownBy w2 va.ownBlock)(K:vv w2 base E (vs++[I]))(hn:y9 w1 va E):
 vz (w2.setCell ⟨g,0,none⟩ E) base g E vb vc (vs++[I]) (A++[r]) B C:=by
 have h1:=h.ext hx;have xe:w2.heap[g]?=some (.cells #[va,vb,vc] 68 (0,0)):=(J.block g h1.lt h1.neA).trans h1.box;have yf:∀k,k≠g->(w2.setCell ⟨g,0,none⟩ E).heap[k]?=w2.heap[k]?:=fun k hk=>heap_setCell_other _ _ _ _ hk
 have OQ:o5 w2 base vb B:=h1.b.keep fun k hk=>J.block k (h1.b.lt k hk).2 fun e=>h1.b.apart h1.a k hk e.symm
 have TU:l9 w2 base vc C:=h1.c.keep fun k hk=>J.block k (h1.c.lt k hk).2 fun e=>aU (by decide) h1.c h1.a k hk e.symm
 have Qw:bu w1 base (vs++[I]) (A++[r]):=h.rows.snoc hx hr O;have GF:bu w2 base (vs++[I]) (A++[r]):=Qw.keep fun i k hi hk=>J.block k ((Qw.row i hi).lt k hk).2 fun e=>(Qw.row i hi).apart h1.a k hk e.symm
 refine⟨?_,h.hg,?_,?_,?_,h.off.snoc h.b hr,?_⟩
 ·have:=vz.store (w:=w2) (w':=w2) (k:=0) (v:=E) xe;exact this
 ·exact K.keep fun k hk=>yf k fun e=>(an K xe (by decide)) (by rw[hk,e])
 ·exact GF.keep fun i k hi hk=>yf k fun e=>(an (GF.row i hi) xe (by decide)) (by rw[hk,e])
 ·exact OQ.keep fun k hk=>yf k fun e=>(an OQ xe (by decide)) (by rw[hk,e])
 ·exact TU.keep fun k hk=>yf k fun e=>(an TU xe (by decide)) (by rw[hk,e])
theorem vz.pushB{w1 w2:World}(h:vz w base g va vb vc vs A B C)(hx:Ext w w1){E:Value}{K:j7}(I:w1.grownBy w2 vb.ownBlock)(J:o5 w2 base E K)(hn:y9 w1 vb E):
 vz (w2.setCell ⟨g,1,none⟩ E) base g va E vc vs A K C:=by
 have h1:=h.ext hx;have xe:w2.heap[g]?=some (.cells #[va,vb,vc] 68 (0,0)):=(I.block g h1.lt h1.neB).trans h1.box;have yf:∀k,k≠g->(w2.setCell ⟨g,1,none⟩ E).heap[k]?=w2.heap[k]?:=fun k hk=>heap_setCell_other _ _ _ _ hk
 have OR:vv w2 base va vs:=h1.a.keep fun k hk=>I.block k (h1.a.lt k hk).2 fun e=>h1.b.apart h1.a k e.symm hk
 have TU:l9 w2 base vc C:=h1.c.keep fun k hk=>I.block k (h1.c.lt k hk).2 fun e=>aU (by decide) h1.c h1.b k hk e.symm
 have GF:bu w2 base vs A:=h1.rows.keep fun i k hi hk=>I.block k ((h1.rows.row i hi).lt k hk).2 fun e=>h1.off i k (by rw[h1.rows.len];exact hi) hk e.symm
 refine⟨?_,h.hg,?_,?_,?_,h1.off.near h1.rows hn,?_⟩
 ·have:=vz.store (w:=w2) (w':=w2) (k:=1) (v:=E) xe;exact this
 ·exact OR.keep fun k hk=>yf k fun e=>(an OR xe (by decide)) (by rw[hk,e])
 ·exact GF.keep fun i k hi hk=>yf k fun e=>(an (GF.row i hi) xe (by decide)) (by rw[hk,e])
 ·exact J.keep fun k hk=>yf k fun e=>(an J xe (by decide)) (by rw[hk,e])
 ·exact TU.keep fun k hk=>yf k fun e=>(an TU xe (by decide)) (by rw[hk,e])
theorem vz.Oh{w1 w2:World}(h:vz w base g va vb vc vs A B C)(hx:Ext w w1){E:Value}{K:j4}(I:w1.grownBy w2 vc.ownBlock)(J:l9 w2 base E K):
 vz (w2.setCell ⟨g,2,none⟩ E) base g va vb E vs A B K:=by
 have h1:=h.ext hx;have xe:w2.heap[g]?=some (.cells #[va,vb,vc] 68 (0,0)):=(I.block g h1.lt h1.neC).trans h1.box;have yf:∀k,k≠g->(w2.setCell ⟨g,2,none⟩ E).heap[k]?=w2.heap[k]?:=fun k hk=>heap_setCell_other _ _ _ _ hk
 have OR:vv w2 base va vs:=h1.a.keep fun k hk=>I.block k (h1.a.lt k hk).2 fun e=>aU (by decide) h1.a h1.c k hk e.symm
 have OQ:o5 w2 base vb B:=h1.b.keep fun k hk=>I.block k (h1.b.lt k hk).2 fun e=>aU (by decide) h1.b h1.c k hk e.symm
 have GF:bu w2 base vs A:=h1.rows.keep fun i k hi hk=>I.block k ((h1.rows.row i hi).lt k hk).2 fun e=>aU (by decide) (h1.rows.row i hi) h1.c k hk e.symm
 refine⟨?_,h.hg,?_,?_,?_,h.off,?_⟩
 ·have:=vz.store (w:=w2) (w':=w2) (k:=2) (v:=E) xe;exact this
 ·exact OR.keep fun k hk=>yf k fun e=>(an OR xe (by decide)) (by rw[hk,e])
 ·exact GF.keep fun i k hi hk=>yf k fun e=>(an (GF.row i hi) xe (by decide)) (by rw[hk,e])
 ·exact OQ.keep fun k hk=>yf k fun e=>(an OQ xe (by decide)) (by rw[hk,e])
 ·exact J.keep fun k hk=>yf k fun e=>(an J xe (by decide)) (by rw[hk,e])
theorem bM{w w2:World}{b1 b2:Nat}{e e':TypeId}{s J n K:Nat}{v v':Value}{xs E:List Value}(h:w.ownsRow b1 e s v n xs)(h':w.ownsRow b2 e' J v' K E)(hne:e≠e')(I:w.grownBy w2 v'.ownBlock):w2.ownsRow b1 e s v n xs :=
 h.kept I (by
  cases hv:v.ownBlock with
  | none=>exact .inl rfl
  | some k=>exact .inr fun e2=>aU hne h h' k hv e2.symm)
theorem dN{w:World}{b1 g k:Nat}{e e':TypeId}{s n:Nat}{v u:Value}{xs:List Value}{c:Array Value}{z:Nat×Nat}(h:w.ownsRow b1 e s v n xs)(hb:w.heap[g]?=some (.cells c e' z))(hne:e≠e'):(w.setCell ⟨g,k,none⟩ u).ownsRow b1 e s v n xs:=by
 refine⟨h.1,?_⟩
 rcases h.2 with hn|⟨g',cap,cur,rfl,xS,E,rest⟩
 ·exact .inl hn
 ·refine .inr ⟨g',cap,cur,rfl,xS,?_,rest⟩;rw[heap_setCell_other _ _ _ _ fun e2=>by subst e2;exact an h hb hne rfl];exact E
theorem vz.F'{w1 w2:World}(h:vz w base g va vb vc vs A B C)(hx:Ext w w1)(hg:w1.grownBy w2 va.ownBlock):w2.heap[g]?=some (.cells #[va,vb,vc] 68 (0,0)):=(hg.block g (h.ext hx).lt (h.ext hx).neA).trans (h.ext hx).box
theorem vz.Hm{w1 w2:World}(h:vz w base g va vb vc vs A B C)(hx:Ext w w1)(hg:w1.grownBy w2 vb.ownBlock):w2.heap[g]?=some (.cells #[va,vb,vc] 68 (0,0)):=(hg.block g (h.ext hx).lt (h.ext hx).neB).trans (h.ext hx).box
theorem vz.T8{w1 w2:World}(h:vz w base g va vb vc vs A B C)(hx:Ext w w1)(hg:w1.grownBy w2 vc.ownBlock):w2.heap[g]?=some (.cells #[va,vb,vc] 68 (0,0)):=(hg.block g (h.ext hx).lt (h.ext hx).neC).trans (h.ext hx).box
theorem uT.CD{α:Type}{E:Enc α}{t:TypeId}{w w1 w2:World}{b1 b2:Nat}{v v':Value}{l:List α}{us:List Value}(h:uT E t w b1 v l)(hx:Ext w w1)(h':vv w b2 v' us)(hne:t≠30)(I:w1.grownBy w2 v'.ownBlock):uT E t w2 b1 v l :=
 bM (h.ext hx) (h'.ext hx) hne I
theorem uT.KA{α:Type}{E:Enc α}{t:TypeId}{w w1 w2:World}{b1 b2:Nat}{v v':Value}{l:List α}{us:j7}(h:uT E t w b1 v l)(hx:Ext w w1)(h':o5 w b2 v' us)(hne:t≠3)(I:w1.grownBy w2 v'.ownBlock):uT E t w2 b1 v l :=
 bM (h.ext hx) (h'.ext hx) hne I
theorem uT.Kz{α:Type}{E:Enc α}{t:TypeId}{w w1 w2:World}{b1 b2:Nat}{v v':Value}{l:List α}{us:j4}(h:uT E t w b1 v l)(hx:Ext w w1)(h':l9 w b2 v' us)(hne:t≠62)(I:w1.grownBy w2 v'.ownBlock):uT E t w2 b1 v l :=
 bM (h.ext hx) (h'.ext hx) hne I
theorem uT.I0{α:Type}{E:Enc α}{t:TypeId}{w:World}{b1 g:Nat}{v x y z:Value}{l:List α}(h:uT E t w b1 v l)(hb:w.heap[g]?=some (.cells #[x,y,z] 68 (0,0)))(hne:t≠68)(k:Nat)(u:Value):uT E t (w.setCell ⟨g,k,none⟩ u) b1 v l :=
 dN h hb hne
end
theorem vv.mono'(h:vv w base v vs)(hb:base'<=base):vv w base' v vs:=by
 refine⟨h.1,?_⟩
 rcases h.2 with hn|⟨g,cap,cur,rfl,xS,rest⟩
 ·exact .inl hn
 ·exact .inr ⟨g,cap,cur,rfl,by omega,rest⟩
theorem cV.mono'(h:cV w base v L)(hb:base'<=base):cV w base' v L :=
 let⟨vs,h1,h2⟩:=h;⟨vs,h1.mono' hb,⟨h2.len,fun i hi=>(h2.row i hi).mono hb,h2.apart⟩⟩
theorem o5.Jx{l:j7}{us:j4}(h:o5 w b1 v l)(hx:Ext w w1)(h':l9 w b2 v' us)(E:w1.grownBy w2 v'.ownBlock):o5 w2 b1 v l :=
 bM (h.ext hx) (h'.ext hx) (by decide) E
theorem l9.St{l:j4}{us:j7}(h:l9 w b1 v l)(hx:Ext w w1)(h':o5 w b2 v' us)(E:w1.grownBy w2 v'.ownBlock):l9 w2 b1 v l :=
 bM (h.ext hx) (h'.ext hx) (by decide) E
theorem Ints.Wv{W:World}(l:j7)(t:TypeId){m:Nat}(hm:l.length=m){cs:Array Value}(E:cs=bh l)(hn:n=W.heap.size)(hb:m<=1099511627776):Ints (W.alloc (.cells cs t)) (some ⟨n,0,none⟩) m m l:=by
 subst hn E;exact(show Row (W.alloc (.cells (bh l) t)) W.heap.size t l from heap_alloc_new W _).ints hm (Nat.le_refl _) e7
theorem Rats.two(W:World)(x y I E:Int)(t:TypeId)(hn:n=W.heap.size):Rats (W.alloc (.cells #[.int .i64 x,.int .i64 y,.int .i64 I,.int .i64 E] t)) (some ⟨n,0,none⟩) 2 2 [(x,y),(I,E)]:=by
 subst hn
 exact⟨rfl,Nat.le_refl _,by omega,fun k hk=>⟨_,0,rfl,fun k hk=>by
  have:k=0∨k=1:=by omega
  rcases this with rfl|rfl<;>simp⟩⟩
theorem bu.mono'(h:bu w base vs L)(hb:base'<=base):bu w base' vs L:=⟨h.len,fun i hi=>(h.row i hi).mono hb,h.apart⟩
theorem Ext.blk(hx:Ext w w'){o:Obj}(h:w.heap[b]?=some o):w'.heap[b]?=some o:=(hx.block b (lt_of_block h)).trans h
theorem iv{I:Nat}{c K:Array Value}{E:TypeId}{z J:Nat×Nat}(h:w.heap[b]?=some (.cells c t z))(h':w.heap[I]?=some (.cells K E J))(hne:t≠E):b≠I:=by
 intro e;subst e;rw[h]at h';simp only[Option.some.injEq,Obj.cells.injEq]at h';exact hne h'.2.1
def li(P:Program)(w:World)(fid:FuncId)(ca:Array Value)(m:Nat)(f:Nat->Int):Prop :=
 ∀(s:Nat) (w1:World),s<m->Ext w w1->Calls P fid (#[.int .i64 (s:Int)]++ca) w1 fun e w2=>e=.returned (.int .i64 (f s))/\Ext w1 w2
theorem li.ext{P:Program}{E:FuncId}{ca:Array Value}{m:Nat}{f:Nat->Int}(h:li P w E ca m f)(hx:Ext w w'):li P w' E ca m f :=
 fun s w1 hs k=>h s w1 hs (hx.trans k)
theorem bw(h:w.heap[g]?=some (.cells #[x,y] t (0,0))):w.cell? ⟨g,0,none⟩=some x:=by rw[cell_of_row w g 0 _ t _ h];rfl
theorem bp(h:w.heap[g]?=some (.cells #[x,y] t (0,0))):w.cell? ⟨g,1,none⟩=some y:=by rw[cell_of_row w g 1 _ t _ h];rfl
theorem Mh(h:w.heap[g]?=some (.cells #[x,y] t (0,0))):(w.setCell ⟨g,1,none⟩ z).heap[g]?=some (.cells #[x,z] t (0,0)):=by
 rw[heap_setCell_same w g 1 _ t z h];rfl
set_option maxRecDepth 100000
theorem kd(l:List UInt8):cQ l=if(vV 32 l).length=2/\(vV 32 l)[0]?.getD []=DX then(if 0<=aq ((vV 32 l)[1]?.getD []) 6 then(if 1<=aq ((vV 32 l)[1]?.getD []) 6/\aq ((vV 32 l)[1]?.getD []) 6<=5 then some (aq ((vV 32 l)[1]?.getD []) 6) else none) else none) else none:=by
 rw[<-sl,oO]
 split
 ·rw[kN]
  split
  ·rfl
  ·rfl
 ·rfl
theorem jn{l:List UInt8}{n:Int}(h:cQ l=some n):1<=n/\n<=5:=by
 rw[kd]at h
 split at h
 ·split at h
  ·split at h
   ·next g=>cases h;exact g
   ·cases h
  ·cases h
 ·cases h
theorem Mi(h:w.heap[g]?=some (.cells #[x,y] t (0,0)))(a b:Value):((w.setCell ⟨g,0,none⟩ a).setCell ⟨g,1,none⟩ b).heap[g]?=some (.cells #[a,b] t (0,0)) :=
 Mh (y:=y) (by rw[heap_setCell_same w g 0 _ t a h];rfl)
def lA(r:Option Int):Nat:=match r with|none=>0|some n=>cN n.toNat
theorem uJ(l:List UInt8)(hl:l.length<=1099511627700):Calls Tryz.prog 37 #[.string (bs l)] w fun e w'=>(∃a m cap,e=.returned (.tuple #[pair ((cQ l).getD 0) a m cap,.bool (cQ l).isSome])/\o5 w' w.heap.size (.slice a m cap) (List.replicate (lA (cQ l)) 0))/\Ext w w':=by
 obtain⟨W,hW⟩:=b9 (w.alloc (.cells #[.int .i64 0,.slice none 0 0] 32));have XW:=ae (show Ext w W by rw[hW];exact Ext.alloc _ _);have wT:=ae (show W.heap.size=w.heap.size+1 by rw[hW];simp);have HR:=ae (show W.heap[w.heap.size]?=some (.cells #[.int .i64 0,.slice none 0 0] 32 (0,0))by rw[hW];exact aj _ _ _ rfl);have D':=ae (it (w:=W) l 32 hl);have HF:=ae (kd l);obtain⟨R,Z⟩:=b9 (cQ l);have HB:=ae (show∀n,R=some n->1<=n/\n<=5 by rw[Z];exact fun n h=>jn h);rw[<-Z]at HF;rw[<-Z];clear Z;obtain⟨L,hL⟩:=b9 (vV 32 l);rw[<-hL]at D' HF;clear hL;have N':b7 (R=none->∀w':World,(o5 w' w.heap.size (.slice none 0 0) (List.replicate (lA R) 0))):=ae (fun h w'=>by rw[h];exact o5.nil _ _);go_enter Tryz.func37,Tryz.ntmps37
 go_upto_region 1 with fail;rw[<-hW];clear hW;go_wp2_with fail;refine D'.o.mono ?_;rintro e w1 ⟨v,rfl,ho,hx⟩;obtain⟨a1,n1,c1,rfl,B3⟩:=ho.var;have AI:=ae ho.A2;have X1:=ae hx;have Ko:=AI.o.l8;have J':=AI.o.o0;have yK:=ae (XW.o.trans hx);obtain⟨O,K,rf⟩:w1.cell? ⟨w.heap.size,0,none⟩=some (.int .i64 0)/\w1.cell? ⟨w.heap.size,1,none⟩=some (.slice none 0 0)/\(∀j,w1.frozen? ⟨w.heap.size,j,none⟩=false):=by
  have hb:=hx.blk HR.o;exact⟨bw hb,bp hb,fun j=>frozen_of_row w1 _ j _ _ hb⟩
 have f0:=rf 0;have f1:=rf 1;clear ho hx rf;by_cases Eu:n1=2
 ·subst Eu;obtain⟨lb,lo,x0,rfl,GH,wK⟩:=AI.o.at (k:=0) e7;obtain⟨lb',lo',x1,e',TS,xB⟩:=AI.o.at (k:=1) e7;simp only[Option.some.injEq,Addr.mk.injEq,and_true]at e';obtain⟨rfl,rfl⟩:=e';have Q:w1.cell? ⟨lb,lo,none⟩=some (.string (bs x0)):=by simpa[vI]using wK 0 _ rfl
  have q1:w1.cell? ⟨lb,lo+1,none⟩=some (.string (bs x1)):=by simpa[vI]using xB 0 _ rfl
  have V8:=ae (show R=if x0=DX then(if 0<=aq x1 6 then(if 1<=aq x1 6/\aq x1 6<=5 then some (aq x1 6) else none) else none) else none by
   rw[HF.o,GH,TS,Option.getD_some,Option.getD_some];by_cases h:x0=DX
   ·rw[if_pos ⟨B3.o,h⟩,if_pos h]
   ·rw[if_neg (fun g=>h g.2),if_neg h])
  clear wK xB GH TS;by_cases J:x0=DX
  ·have Qg:((bs x0).toList == [112,108,97,121,101,114,115])=true:=by rw[bL,J];rfl
   have HP:=ae (oz (w:=w1) x1);have Sc:=ae (show R=if 0<=aq x1 6 then(if 1<=aq x1 6/\aq x1 6<=5 then some (aq x1 6) else none) else none by rw[V8.o,if_pos J]);obtain⟨d,hd⟩:=b9 (aq x1 6);rw[<-hd]at HP Sc;obtain⟨t0,U⟩:=b9 (bs x0);rw[<-U]at Q Qg;clear hd J U;by_cases I:0<=d
   ·rw[if_pos I,decide_eq_true I]at HP;by_cases wq:1<=d/\d<=5
    ·have Ai:=ae (show R=some d by rw[Sc.o,if_pos I,if_pos wq]);obtain⟨q,rfl⟩:∃q:Nat,d=q:=⟨d.toNat,by omega⟩;have hb:r' (q:Int) 1 5=true:=by unfold r';simp;omega
     have CU:q<=5:=by omega
     have Ma:=ae (fun w'=>I7 q CU w');have M5:=gH (cN q) (j1 (cW q CU));obtain⟨N,hN⟩:=b9 (cN q);have HN:=ae hN;have Ef:=ae (show N<=32 by rw[hN];exact(cW q CU).2);rw[<-hN]at Ma M5;clear hN wq;go_wp2_with fail;refine HP.o.mono ?_;rintro e w2 ⟨rfl,hx⟩;have X2:=ae (yK.o.trans hx);have E:=ae (hx.blk (X1.o.blk HR.o));have g0:=bw E.o;have g1:=bp E.o;have T3:=frozen_of_row w2 _ 0 _ _ E.o;have TZ:=frozen_of_row w2 _ 1 _ _ E.o;have PN:=X2.o.size;have wm:=lt_of_block E.o;clear hx O K f0 f1 Q q1;go_wp2_with fail;refine(bm _ _ _ _).mono ?_;rintro e w3 ⟨rfl,rfl⟩;go_wp2_with fail;refine(Ma.o _).mono ?_;rintro e w3 ⟨rfl,rfl⟩;go_wp2_with fail;have z:=(Ext.alloc _ (.cells (bh (List.replicate N 0)) 3)).blk (Mi E.o (.int .i64 (q:Int)) (.slice (some ⟨w2.heap.size,0,none⟩) N N));refine bodyPost_ret (v:=.tuple #[pair (q:Int) (some ⟨w2.heap.size,0,none⟩) N N,.bool true]) (by simp[results,Tryz.results37,go_sem,pair,bw z,bp z]) rfl ⟨⟨_,_,_,by rw[Ai.o];rfl,?_⟩,((X2.o.store 0 (Nat.le_refl _) _).store 1 (Nat.le_refl _) _).trans (Ext.alloc _ _)⟩;rw[Ai.o,show lA (some (q:Int))=N from HN.o.symm];exact Row.own (aj _ _ _ e8) PN e8 (j1 Ef.o)
    ·have Ai:=ae (show R=none by rw[Sc.o,if_pos I,if_neg wq]);have hb:r' d 1 5=false:=by unfold r';rw[Bool.eq_false_iff];intro h;simp at h;omega
     clear wq;go_wp2_with fail;refine HP.o.mono ?_;rintro e w2 ⟨rfl,hx⟩;have X2:=ae (yK.o.trans hx);have E:=ae (hx.blk (X1.o.blk HR.o));have g0:=bw E.o;have g1:=bp E.o;have T3:=frozen_of_row w2 _ 0 _ _ E.o;have TZ:=frozen_of_row w2 _ 1 _ _ E.o;have PN:=X2.o.size;have wm:=lt_of_block E.o;clear hx O K f0 f1 Q q1;go_wp2_with fail;refine(bm _ _ _ _).mono ?_;rintro e w3 ⟨rfl,rfl⟩;go_wp2_with fail;refine bodyPost_ret (v:=.tuple #[pair 0 none 0 0,.bool false]) (by simp[results,Tryz.results37,go_sem,pair,g0,g1]) rfl ⟨⟨none,0,0,by rw[Ai.o];rfl,N'.o Ai.o _⟩,(X2.o.store 0 (Nat.le_refl _) _).store 1 (Nat.le_refl _) _⟩
   ·have Ai:=ae (show R=none by rw[Sc.o,if_neg I]);rw[if_neg I,decide_eq_false I]at HP;go_wp2_with fail;refine HP.o.mono ?_;rintro e w2 ⟨rfl,hx⟩;have X2:=ae (yK.o.trans hx);have E:=ae (hx.blk (X1.o.blk HR.o));have g0:=bw E.o;have g1:=bp E.o;have T3:=frozen_of_row w2 _ 0 _ _ E.o;have TZ:=frozen_of_row w2 _ 1 _ _ E.o;have PN:=X2.o.size;have wm:=lt_of_block E.o;clear hx O K f0 f1 Q q1;go_wp2_with fail;refine bodyPost_ret (v:=.tuple #[pair 0 none 0 0,.bool false]) (by simp[results,Tryz.results37,go_sem,pair,g0,g1]) rfl ⟨⟨none,0,0,by rw[Ai.o];rfl,N'.o Ai.o _⟩,(X2.o.store 0 (Nat.le_refl _) _).store 1 (Nat.le_refl _) _⟩
  ·have Qg:((bs x0).toList == [112,108,97,121,101,114,115])=false:=by rw[bL,beq_eq_false_iff_ne];exact J
   have Ai:=ae (show R=none by rw[V8.o,if_neg J]);obtain⟨t0,U⟩:=b9 (bs x0);rw[<-U]at Q Qg;clear J U;go_wp2_with fail;refine bodyPost_ret (v:=.tuple #[pair 0 none 0 0,.bool false]) (by simp[results,Tryz.results37,go_sem,pair,O,K]) rfl ⟨⟨none,0,0,by rw[Ai.o];rfl,N'.o Ai.o _⟩,(yK.o.store 0 (Nat.le_refl _) _).store 1 (Nat.le_refl _) _⟩
 ·have hne:((n1:Int) == 2)=false:=by simp;omega
  have Ai:=ae (show R=none by rw[HF.o,if_neg (fun g=>Eu (by rw[<-B3.o];exact g.1))]);go_wp2_with fail;refine bodyPost_ret (v:=.tuple #[pair 0 none 0 0,.bool false]) (by simp[results,Tryz.results37,go_sem,pair,O,K]) rfl ⟨⟨none,0,0,by rw[Ai.o];rfl,N'.o Ai.o _⟩,(yK.o.store 0 (Nat.le_refl _) _).store 1 (Nat.le_refl _) _⟩
end Go.Proofs.YtdadoignenffgaaGreatDoor
