import Derived.Test.YtdadoignenffgaaGreatDoorEbAllG6
import Derived.Test.YtdadoignenffgaaGreatDoorEbAllG8
import Derived.Test.YtdadoignenffgaaGreatDoorEbAllG2
import Derived.Test.YtdadoignenffgaaGreatDoorEbAllG3
import Derived.Deep.DeepCutAuto
import Derived.Outline
set_option linter.unusedVariables false
set_option linter.unusedSimpArgs false
namespace Go.Proofs.YtdadoignenffgaaGreatDoor
variable{w w' w1 w2:World}{b base k b1 b2 n g base' m:Nat}{vs:List Value}{A:j5}{v v' vr x y z JU KQ vb va:Value}{B:j4}{α:Type}{t:TypeId}{a:j6}{fid:FuncId}
set_option maxHeartbeats 16000000
open Go.RowKit
theorem Ext.store(h:Ext w w')(k:Nat)(hb:w.heap.size<=b)(v:Value):Ext w (w'.setCell ⟨b,k,none⟩ v):=aec h (p:=⟨b,k,none⟩) hb v
theorem Ext.grown{w0:World}{row:Option Nat}(h:Ext w0 w)(hg:w.grownBy w' row)(hr:∀k,row=some k->w0.heap.size<=k):Ext w0 w':=ak h hg hr
def Ez(vs:List Value)(v:Value):Prop:=∀i k,i<vs.length->(vs[i]?.getD undef).ownBlock=some k->v.ownBlock≠some k
theorem Ez.nil(v:Value):Ez [] v:=fun i k h=>absurd h e8
theorem Ez.near(h:Ez vs v)(hr:bL w base vs A)(hn:Cx w v v'):Ez vs v':=by
 intro i k hi hk EL
 rcases hn k EL with h1|h1
 ·exact h i k hi hk h1
 ·have:=((hr.row i (by rw[<-hr.len];exact hi)).lt k hk).2;omega
theorem Ez.snoc{B r:j7}(h:Ez vs v)(hb:o4 w base v B)(hr:o4 w' w.heap.size vr r):Ez (vs++[vr]) v:=by
 intro i k hi hk EL;by_cases hl:i<vs.length
 ·rw[Ep hl]at hk;exact h i k hl hk EL
 ·have G:i=vs.length:=by simp at hi;omega
  subst G;rw[Y',l']at hk;have h1:=(hb.lt k EL).2;have h2:=(hr.lt k hk).1;omega
structure zD(w:World)(base g:Nat)(va vb vc:Value)(vs:List Value)(A:j5)(B:j7)(C:j4):Prop where
 box:w.heap[g]?=some (.cells #[va,vb,vc] 68 (0,0))
 hg:base<=g
 a:zC w base va vs
 rows:bL w base vs A
 b:o4 w base vb B
 off:Ez vs vb
 c:o0 w base vc C
section
variable{w:World}{base g:Nat}{va vb vc:Value}{vs:List Value}{A:j5}{B:j7}{C:j4}
theorem zD.lt(h:zD w base g va vb vc vs A B C):g<w.heap.size:=mr h.box
theorem zD.ext{w':World}(h:zD w base g va vb vc vs A B C)(hx:Ext w w'):zD w' base g va vb vc vs A B C :=
 ⟨(hx.block _ h.lt).trans h.box,h.hg,h.a.ext hx,h.rows.ext hx,h.b.ext hx,h.off,h.c.ext hx⟩
theorem zD.c0(h:zD w base g va vb vc vs A B C):w.cell? ⟨g,0,none⟩=some va:=by rw[tn w g 0 _ _ _ h.box];rfl
theorem zD.c1(h:zD w base g va vb vc vs A B C):w.cell? ⟨g,1,none⟩=some vb:=by rw[tn w g 1 _ _ _ h.box];rfl
theorem zD.c2(h:zD w base g va vb vc vs A B C):w.cell? ⟨g,2,none⟩=some vc:=by rw[tn w g 2 _ _ _ h.box];rfl
theorem zD.free(h:zD w base g va vb vc vs A B C)(k:Nat):w.frozen? ⟨g,k,none⟩=false:=sd w g k _ _ h.box
theorem zD.new{w:World}{base:Nat}(hb:base<=w.heap.size):zD (w.alloc (.cells #[.slice none 0 0,.slice none 0 0,.slice none 0 0] 68)) base w.heap.size (.slice none 0 0) (.slice none 0 0) (.slice none 0 0) [] [] [] [] :=
 ⟨L' _ _,hb,zC.nil _ _,bL.nil _ _,o4.nil _ _,Ez.nil _,o0.nil _ _⟩
theorem zD.BK{x y z:Value}(h:w.heap[g]?=some (.cells #[x,y,z] 68 (0,0))):w.cell? ⟨g,0,none⟩=some x:=by rw[tn w g 0 _ _ _ h];rfl
theorem zD.BJ{x y z:Value}(h:w.heap[g]?=some (.cells #[x,y,z] 68 (0,0))):w.cell? ⟨g,1,none⟩=some y:=by rw[tn w g 1 _ _ _ h];rfl
theorem zD.BI{x y z:Value}(h:w.heap[g]?=some (.cells #[x,y,z] 68 (0,0))):w.cell? ⟨g,2,none⟩=some z:=by rw[tn w g 2 _ _ _ h];rfl
theorem zD.Cw{x y z:Value}(h:w.heap[g]?=some (.cells #[x,y,z] 68 (0,0)))(k:Nat):w.frozen? ⟨g,k,none⟩=false:=sd w g k _ _ h
theorem zD.neA(h:zD w base g va vb vc vs A B C):some g≠va.ownBlock:=au h.a h.box (by decide)
theorem zD.neB(h:zD w base g va vb vc vs A B C):some g≠vb.ownBlock:=au h.b h.box (by decide)
theorem zD.neC(h:zD w base g va vb vc vs A B C):some g≠vc.ownBlock:=au h.c h.box (by decide)
theorem zD.store{w w':World}{k:Nat}{v:Value}(hb:w.heap[g]?=some (.cells #[va,vb,vc] 68 (0,0))):(w.setCell ⟨g,k,none⟩ v).heap[g]?=some (.cells (#[va,vb,vc].setIfInBounds k v) 68 (0,0)):=ta w g k _ _ v hb
theorem zD.FV{w1 w2:World}(h:zD w base g va vb vc vs A B C)(hx:Ext w w1){vr JU:Value}{r:j7}(hr:o4 w1 w.heap.size vr r)(OP:base<=w.heap.size)(G:w1.grownBy w2 va.ownBlock)(ho:zC w2 base JU (vs++[vr]))(hn:Cx w1 va JU):
 zD (w2.setCell ⟨g,0,none⟩ JU) base g JU vb vc (vs++[vr]) (A++[r]) B C:=by
 have h1:=h.ext hx;have AR:w2.heap[g]?=some (.cells #[va,vb,vc] 68 (0,0)):=(G.block g h1.lt h1.neA).trans h1.box;have BA:∀k,k≠g->(w2.setCell ⟨g,0,none⟩ JU).heap[k]?=w2.heap[k]?:=fun k hk=>bB _ _ _ _ hk
 have Tg:o4 w2 base vb B:=h1.b.keep fun k hk=>G.block k (h1.b.lt k hk).2 fun e=>h1.b.apart h1.a k hk e.symm
 have Zn:o0 w2 base vc C:=h1.c.keep fun k hk=>G.block k (h1.c.lt k hk).2 fun e=>bh (by decide) h1.c h1.a k hk e.symm
 have Va:bL w1 base (vs++[vr]) (A++[r]):=h.rows.snoc hx hr OP;have K4:bL w2 base (vs++[vr]) (A++[r]):=Va.keep fun i k hi hk=>G.block k ((Va.row i hi).lt k hk).2 fun e=>(Va.row i hi).apart h1.a k hk e.symm
 refine⟨?_,h.hg,?_,?_,?_,h.off.snoc h.b hr,?_⟩
 ·have:=zD.store (w:=w2) (w':=w2) (k:=0) (v:=JU) AR;exact this
 ·exact ho.keep fun k hk=>BA k fun e=>(au ho AR (by decide)) (by rw[hk,e])
 ·exact K4.keep fun i k hi hk=>BA k fun e=>(au (K4.row i hi) AR (by decide)) (by rw[hk,e])
 ·exact Tg.keep fun k hk=>BA k fun e=>(au Tg AR (by decide)) (by rw[hk,e])
 ·exact Zn.keep fun k hk=>BA k fun e=>(au Zn AR (by decide)) (by rw[hk,e])
theorem zD.pushB{w1 w2:World}(h:zD w base g va vb vc vs A B C)(hx:Ext w w1){KQ:Value}{I:j7}(G:w1.grownBy w2 vb.ownBlock)(ho:o4 w2 base KQ I)(hn:Cx w1 vb KQ):
 zD (w2.setCell ⟨g,1,none⟩ KQ) base g va KQ vc vs A I C:=by
 have h1:=h.ext hx;have AR:w2.heap[g]?=some (.cells #[va,vb,vc] 68 (0,0)):=(G.block g h1.lt h1.neB).trans h1.box;have BA:∀k,k≠g->(w2.setCell ⟨g,1,none⟩ KQ).heap[k]?=w2.heap[k]?:=fun k hk=>bB _ _ _ _ hk
 have Th:zC w2 base va vs:=h1.a.keep fun k hk=>G.block k (h1.a.lt k hk).2 fun e=>h1.b.apart h1.a k e.symm hk
 have Zn:o0 w2 base vc C:=h1.c.keep fun k hk=>G.block k (h1.c.lt k hk).2 fun e=>bh (by decide) h1.c h1.b k hk e.symm
 have K4:bL w2 base vs A:=h1.rows.keep fun i k hi hk=>G.block k ((h1.rows.row i hi).lt k hk).2 fun e=>h1.off i k (by rw[h1.rows.len];exact hi) hk e.symm
 refine⟨?_,h.hg,?_,?_,?_,h1.off.near h1.rows hn,?_⟩
 ·have:=zD.store (w:=w2) (w':=w2) (k:=1) (v:=KQ) AR;exact this
 ·exact Th.keep fun k hk=>BA k fun e=>(au Th AR (by decide)) (by rw[hk,e])
 ·exact K4.keep fun i k hi hk=>BA k fun e=>(au (K4.row i hi) AR (by decide)) (by rw[hk,e])
 ·exact ho.keep fun k hk=>BA k fun e=>(au ho AR (by decide)) (by rw[hk,e])
 ·exact Zn.keep fun k hk=>BA k fun e=>(au Zn AR (by decide)) (by rw[hk,e])
theorem zD.SJ{w1 w2:World}(h:zD w base g va vb vc vs A B C)(hx:Ext w w1){G:Value}{J:j4}(I:w1.grownBy w2 vc.ownBlock)(ho:o0 w2 base G J):
 zD (w2.setCell ⟨g,2,none⟩ G) base g va vb G vs A B J:=by
 have h1:=h.ext hx;have AR:w2.heap[g]?=some (.cells #[va,vb,vc] 68 (0,0)):=(I.block g h1.lt h1.neC).trans h1.box;have BA:∀k,k≠g->(w2.setCell ⟨g,2,none⟩ G).heap[k]?=w2.heap[k]?:=fun k hk=>bB _ _ _ _ hk
 have Th:zC w2 base va vs:=h1.a.keep fun k hk=>I.block k (h1.a.lt k hk).2 fun e=>bh (by decide) h1.a h1.c k hk e.symm
 have Tg:o4 w2 base vb B:=h1.b.keep fun k hk=>I.block k (h1.b.lt k hk).2 fun e=>bh (by decide) h1.b h1.c k hk e.symm
 have K4:bL w2 base vs A:=h1.rows.keep fun i k hi hk=>I.block k ((h1.rows.row i hi).lt k hk).2 fun e=>bh (by decide) (h1.rows.row i hi) h1.c k hk e.symm
 refine⟨?_,h.hg,?_,?_,?_,h.off,?_⟩
 ·have:=zD.store (w:=w2) (w':=w2) (k:=2) (v:=G) AR;exact this
 ·exact Th.keep fun k hk=>BA k fun e=>(au Th AR (by decide)) (by rw[hk,e])
 ·exact K4.keep fun i k hi hk=>BA k fun e=>(au (K4.row i hi) AR (by decide)) (by rw[hk,e])
 ·exact Tg.keep fun k hk=>BA k fun e=>(au Tg AR (by decide)) (by rw[hk,e])
 ·exact ho.keep fun k hk=>BA k fun e=>(au ho AR (by decide)) (by rw[hk,e])
theorem ce{w w2:World}{b1 b2:Nat}{e e':TypeId}{s I n J:Nat}{v v':Value}{xs G:List Value}(h:w.ownsRow b1 e s v n xs)(h':w.ownsRow b2 e' I v' J G)(hne:e≠e')(K:w.grownBy w2 v'.ownBlock):w2.ownsRow b1 e s v n xs :=
 h.kept K (by
  cases hv:v.ownBlock with
  | none=>exact .inl rfl
  | some k=>exact .inr fun e2=>bh hne h h' k hv e2.symm)
theorem ei{w:World}{b1 g k:Nat}{e e':TypeId}{s n:Nat}{v u:Value}{xs:List Value}{c:Array Value}{z:Nat×Nat}(h:w.ownsRow b1 e s v n xs)(hb:w.heap[g]?=some (.cells c e' z))(hne:e≠e'):(w.setCell ⟨g,k,none⟩ u).ownsRow b1 e s v n xs:=by
 refine⟨h.1,?_⟩
 rcases h.2 with hn|⟨g',cap,cur,rfl,Bg,G,rest⟩
 ·exact .inl hn
 ·refine .inr ⟨g',cap,cur,rfl,Bg,?_,rest⟩;rw[bB _ _ _ _ fun e2=>by subst e2;exact au h hb hne rfl];exact G
theorem zD.Kz{w1 w2:World}(h:zD w base g va vb vc vs A B C)(hx:Ext w w1)(hg:w1.grownBy w2 va.ownBlock):w2.heap[g]?=some (.cells #[va,vb,vc] 68 (0,0)):=(hg.block g (h.ext hx).lt (h.ext hx).neA).trans (h.ext hx).box
theorem zD.LI{w1 w2:World}(h:zD w base g va vb vc vs A B C)(hx:Ext w w1)(hg:w1.grownBy w2 vb.ownBlock):w2.heap[g]?=some (.cells #[va,vb,vc] 68 (0,0)):=(hg.block g (h.ext hx).lt (h.ext hx).neB).trans (h.ext hx).box
theorem zD.Zz{w1 w2:World}(h:zD w base g va vb vc vs A B C)(hx:Ext w w1)(hg:w1.grownBy w2 vc.ownBlock):w2.heap[g]?=some (.cells #[va,vb,vc] 68 (0,0)):=(hg.block g (h.ext hx).lt (h.ext hx).neC).trans (h.ext hx).box
theorem zd.Gi{α:Type}{E:Enc α}{t:TypeId}{w w1 w2:World}{b1 b2:Nat}{v v':Value}{l:List α}{us:List Value}(h:zd E t w b1 v l)(hx:Ext w w1)(h':zC w b2 v' us)(hne:t≠30)(G:w1.grownBy w2 v'.ownBlock):zd E t w2 b1 v l :=
 ce (h.ext hx) (h'.ext hx) hne G
theorem zd.O1{α:Type}{E:Enc α}{t:TypeId}{w w1 w2:World}{b1 b2:Nat}{v v':Value}{l:List α}{us:j7}(h:zd E t w b1 v l)(hx:Ext w w1)(h':o4 w b2 v' us)(hne:t≠3)(G:w1.grownBy w2 v'.ownBlock):zd E t w2 b1 v l :=
 ce (h.ext hx) (h'.ext hx) hne G
theorem zd.OZ{α:Type}{E:Enc α}{t:TypeId}{w w1 w2:World}{b1 b2:Nat}{v v':Value}{l:List α}{us:j4}(h:zd E t w b1 v l)(hx:Ext w w1)(h':o0 w b2 v' us)(hne:t≠62)(G:w1.grownBy w2 v'.ownBlock):zd E t w2 b1 v l :=
 ce (h.ext hx) (h'.ext hx) hne G
theorem zd.M4{α:Type}{E:Enc α}{t:TypeId}{w:World}{b1 g:Nat}{v x y z:Value}{l:List α}(h:zd E t w b1 v l)(hb:w.heap[g]?=some (.cells #[x,y,z] 68 (0,0)))(hne:t≠68)(k:Nat)(u:Value):zd E t (w.setCell ⟨g,k,none⟩ u) b1 v l :=
 ei h hb hne
end
theorem zC.mono'(h:zC w base v vs)(hb:base'<=base):zC w base' v vs:=by
 refine⟨h.1,?_⟩
 rcases h.2 with hn|⟨g,cap,cur,rfl,Bg,rest⟩
 ·exact .inl hn
 ·exact .inr ⟨g,cap,cur,rfl,by omega,rest⟩
theorem dt.mono'{L:j5}(h:dt w base v L)(hb:base'<=base):dt w base' v L :=
 let⟨vs,h1,h2⟩:=h;⟨vs,h1.mono' hb,⟨h2.len,fun i hi=>(h2.row i hi).mono hb,h2.apart⟩⟩
theorem o4.NI{l:j7}{us:j4}(h:o4 w b1 v l)(hx:Ext w w1)(h':o0 w b2 v' us)(G:w1.grownBy w2 v'.ownBlock):o4 w2 b1 v l :=
 ce (h.ext hx) (h'.ext hx) (by decide) G
theorem o0.XB{l:j4}{us:j7}(h:o0 w b1 v l)(hx:Ext w w1)(h':o4 w b2 v' us)(G:w1.grownBy w2 v'.ownBlock):o0 w2 b1 v l :=
 ce (h.ext hx) (h'.ext hx) (by decide) G
theorem Ints.litM{W:World}(l:j7)(t:TypeId)(hm:l.length=m){cs:Array Value}(G:cs=be l)(hn:n=W.heap.size)(hb:m<=1099511627776):Ints (W.alloc (.cells cs t)) (some ⟨n,0,none⟩) m m l:=by
 subst hn G;exact(show Row (W.alloc (.cells (be l) t)) W.heap.size t l from L' W _).ints hm (ao _) e7
theorem Rats.two(W:World)(x y I G:Int)(t:TypeId)(hn:n=W.heap.size):Rats (W.alloc (.cells #[.int .i64 x,.int .i64 y,.int .i64 I,.int .i64 G] t)) (some ⟨n,0,none⟩) 2 2 [(x,y),(I,G)]:=by
 subst hn
 exact⟨rfl,ao _,by omega,fun k hk=>⟨_,0,rfl,fun k hk=>by
  have:k=0∨k=1:=by omega
  rcases this with rfl|rfl<;>simp⟩⟩
theorem bL.mono'{L:j5}(h:bL w base vs L)(hb:base'<=base):bL w base' vs L:=⟨h.len,fun i hi=>(h.row i hi).mono hb,h.apart⟩
theorem Ext.blk(hx:Ext w w'){o:Obj}(h:w.heap[b]?=some o):w'.heap[b]?=some o:=(hx.block b (mr h)).trans h
theorem jK{I:Nat}{c K:Array Value}{G:TypeId}{z J:Nat×Nat}(h:w.heap[b]?=some (.cells c t z))(h':w.heap[I]?=some (.cells K G J))(hne:t≠G):b≠I:=by
 intro e;subst e;rw[h]at h';simp only[bA,adO]at h';exact hne h'.2.1
set_option maxRecDepth 100000
structure EA(w:World)(a:j6)(na ca:Nat)(b:j6)(nb cb:Nat)(c:j6)(nc cc:Nat)(A:j5)(B:j7)(C:j4):Prop where
 a:cH w a na ca A
 b:Ints w b nb cb B
 c:Rats w c nc cc C
theorem EA.ext{G ca:Nat}{b:j6}{nb cb:Nat}{c:j6}{nc cc:Nat}{B:j7}{C:j4}(h:EA w a G ca b nb cb c nc cc A B C)(hx:Ext w w'):EA w' a G ca b nb cb c nc cc A B C :=
 ⟨h.a.ext hx,h.b.ext hx,h.c.ext hx⟩
abbrev DD(a:j6)(na ca:Nat)(b:j6)(nb cb:Nat)(c:j6)(nc cc:Nat):Value:=.agg #[.slice a na ca,.slice b nb cb,.slice c nc cc]
abbrev bj(a:j6)(na ca:Nat)(b:j6)(nb cb:Nat)(c:j6)(nc cc:Nat):Obj:=.cells #[.slice a na ca,.slice b nb cb,.slice c nc cc] 68
theorem qo{A:j4}{s:j8}(h:Bp A B k=some s):Bp A B (k+1)=if(mulR (A[k]?.getD (0,0)) (B[k]?.getD (0,0))).2=true/\(Ab s (mulR (A[k]?.getD (0,0)) (B[k]?.getD (0,0))).1).2=true
 then some (Ab s (mulR (A[k]?.getD (0,0)) (B[k]?.getD (0,0))).1).1 else none:=by simp only[Bp,h,G3]
theorem jw{A:j4}(h:Bp A B k=none):∀{n:Nat},k<=n->Bp A B n=none
 | n,hn=>by
   obtain⟨d,rfl⟩:∃d,n=k+d:=⟨n-k,by omega⟩;clear hn
   induction d with
   | zero=>exact h
   | succ d ih=>show(Bp A B (k+d)).bind _=none;rw[ih];rfl
def z7(o:Option (Int×Int)):(Int×Int)×Bool:=(o.getD (0,0),o.isSome)
theorem fW{b:j6}{cap Q J:Nat}{A:j4}(h:Rats w a n cap A)(h':Rats w b Q J B):
 Calls Tryz.prog 197 #[.slice a n cap,.slice b Q J] w fun e w'=>e=.returned (ER (z7 (zr A B)))/\Ext w w':=by
 have HL:=ae h.hlen;have PX:=ae h'.hlen;have l8:=h.l8;have l9:=h.l9;have ON:=h'.l8;have Ov:=h'.l9;have y9:=Ext.alloc w (.cells #[.int .i64 0,.int .i64 0] 62);have HIA:=ae (h.ext y9);have HIB:=ae (h'.ext y9);have y7:=ae y9;have zF:=ae (show(w.alloc (.cells #[.int .i64 0,.int .i64 0] 62)).heap[w.heap.size]?=some (.cells #[.int .i64 0,.int .i64 0] 62 (0,0))from ai _ _ _ rfl);clear h h' y9;by_cases hne:n=Q
 ·subst hne;have HD:=ae (show zr A B=Bp A B n by unfold zr;rw[HL.o,PX.o,hI rfl]);have Qj:((n:Int) != (n:Int))=false:=by simp
  go_enter Tryz.func197,Tryz.ntmps197
  go_wp2_with fail;refine(cX 0 _).mono ?_;rintro e w1 ⟨rfl,zK⟩;have yZ:=ae zK;have EO:=ae (ah.new (Ext.refl w1) 0 1);have CZ:=ae (fun(w':World) (hx:Ext w1 w')=>(hx.block _ (by have:=mr zF.o;have:=yZ.o.size;omega)).trans ((yZ.o.block _ (mr zF.o)).trans zF.o));have I4:=ae (y7.o.trans yZ.o);have Ur:w.heap.size<w1.heap.size:=by have:=mr zF.o;have:=yZ.o.size;omega
  clear zK;go_wp2_with fail
  go_loopg [21] n (fun gk ii wr=>∃(k:Nat) (p q:Int),b7 (gk+k=n)/\ii=.int .i64 (k:Int)/\b7 (ah w1 wr w1.heap.size p q)/\b7 (Bp A B k=some (p,q)))
  case atStart=>exact⟨0,0,1,ae e7,rfl,EO,ae rfl⟩
  case round =>
   obtain⟨g1,o7⟩:=b9 gk;subst o7;obtain⟨G,o5⟩:=b9 wr;subst o5;obtain⟨k,p,q,HK,rfl,HB,HT⟩:=hrel;have Cn:=HB.o.c0;have AS:=HB.o.c1;have JE:=HB.o.lt;have hszb:=HB.o.ext.size;by_cases hlt:k<n
   ·obtain⟨ab,BP,ax,ay,ha,K3,C9,C8⟩:=(HIA.o.ext (yZ.o.trans HB.o.ext)).at hlt;obtain⟨Z,Cp,U,I,hb,BH,Ge,Gd⟩:=(HIB.o.ext (yZ.o.trans HB.o.ext)).at hlt;subst ha hb;obtain⟨mx,my,one,hm⟩:∃x y ok,mulR (ax,ay) (U,I)=((x,y),ok):=⟨_,_,_,rfl⟩;have HM:=ae hm;obtain⟨p2,q2,two,Hw⟩:∃u v ok,Ab (p,q) (mx,my)=((u,v),ok):=⟨_,_,_,rfl⟩;have B6:=ae Hw;have AT:=ae (show Bp A B (k+1)=if one=true/\two=true then some (p2,q2) else none by rw[qo HT.o,K3,BH,hm];simp only;rw[Hw]);clear K3 BH hm Hw;go_upto_region 7 with fail
    go_cut [8,9] (fun sx so wx=>∃g:Nat,sx=.pointer (some ⟨g,0,none⟩)/\so=.bool one/\b7 (ah G wx g mx my))
    case first =>
     have k7:Ext G G.drew:=Ext.drew G;have zw:Ext G (G.alloc (.cells #[.int .i64 0,.int .i64 0] 62)).drew:=(Ext.alloc _ _).trans (Ext.drew _);have k8:=ae (fun(w':World) (h:Ext G w')=>(⟨h.j9 C9,h.j9 C8,h.j9 Ge,h.j9 Gd,h⟩:w'.cell? ⟨ab,BP+k*2,none⟩=some (.int .i64 ax)/\w'.cell? ⟨ab,BP+k*2+1,none⟩=some (.int .i64 ay)/\w'.cell? ⟨Z,Cp+k*2,none⟩=some (.int .i64 U)/\w'.cell? ⟨Z,Cp+k*2+1,none⟩=some (.int .i64 I)/\Ext G w'))
     go_region_held3 (fun w'=>w'.cell? ⟨ab,BP+k*2,none⟩=some (.int .i64 ax)/\w'.cell? ⟨ab,BP+k*2+1,none⟩=some (.int .i64 ay)/\w'.cell? ⟨Z,Cp+k*2,none⟩=some (.int .i64 U)/\w'.cell? ⟨Z,Cp+k*2+1,none⟩=some (.int .i64 I)/\Ext G w')
      (first
        | with_reducible exact k8.o _ k7
        | with_reducible exact k8.o _ zw
        | with_reducible exact k8.o _ ((k7.setCell (by first|(simp;done)|(simp;omega)) _).setCell (by first|(simp;done)|(simp;omega)) _)
        | with_reducible exact k8.o _ (k7.trans (Ext.alloc _ _))
        | with_reducible exact k8.o _ (q8.put _ _).ext)
      (first
        | (go_at_call 237
           (with_reducible refine(sz ax ay U I _).mono ?_)
           rw[HM.o];rintro e w3 ⟨rfl,O⟩
           first|(with_reducible have q8:=ah.grow q8 O)|(with_reducible have q8:=ah.zu O)|(with_reducible have q8:=ah.zy k7 O)|skip
           first|(have Dy:=q8.c0;have Dx:=q8.c1;have Ev:=q8.free)|skip
           have k7:Ext G w3:=by first|with_reducible exact k7.trans O|with_reducible exact zw.trans O|with_reducible exact(k7.trans (Ext.alloc _ _)).trans O
           have A0:=k7.size)
        | fail)
     all_goals(go_wp2_with fail;go_meet;first|exact⟨_,rfl,rfl,ae (q8.put _ _)⟩|exact⟨_,rfl,rfl,ae (ah.new k7 _ _)⟩|exact⟨_,rfl,rfl,ae (ah.new' k7 _ _ e8)⟩)
    obtain⟨g,rfl,rfl,Ad⟩:=hcut;have g0:=Ad.o.c0;have g1':=Ad.o.c1;have RV:=HB.o.grow Ad.o.ext;have OS:=RV.c0;have OR:=RV.c1;have A6:=ae RV;clear Cn AS C9 C8 Ge Gd RV;go_wp2_with fail;refine(kh p q mx my _).mono ?_;rw[B6.o];rintro e w4 ⟨rfl,zX⟩;have K:=ae (A6.o.grow zX);have Ig:=ae (K.o.grow (Ext.alloc _ (.cells #[.int .i64 p2,.int .i64 q2] 62)));have hr:=aj (CZ.o _ Ig.o.ext);obtain⟨A',AX,GA⟩:=hr;have D0:=ae Ig.o.ext;have U0:=Ig.o.free;have Ze:=K.o.lt;have IW:=K.o.ext.size;have h40:=K.o.c0;have h41:=K.o.c1;have h4f:=K.o.free;clear zX g0 g1' OS OR;cases one
    ·have HN:=ae (show zr A B=none by rw[HD.o];exact jw (k:=k+1) (by rw[AT.o];simp) hlt);go_wp2_with fail;refine bR (v:=.tuple #[.agg #[.int .i64 0,.int .i64 0],.bool false]) (by simp[results,acF,go_sem,A',AX]) rfl ⟨by rw[HN.o];rfl,(((I4.o.trans D0.o).store 0 (ao _) _).store 1 (ao _) _)⟩
    ·cases two
     ·have HN:=ae (show zr A B=none by rw[HD.o];exact jw (k:=k+1) (by rw[AT.o];simp) hlt);go_wp2_with fail;refine bR (v:=.tuple #[.agg #[.int .i64 0,.int .i64 0],.bool false]) (by simp[results,acF,go_sem,A',AX]) rfl ⟨by rw[HN.o];rfl,(((I4.o.trans D0.o).store 0 (ao _) _).store 1 (ao _) _)⟩
     ·have Dh:=ae (show Bp A B (k+1)=some (p2,q2)by rw[AT.o];simp);have Ie:=ae ((K.o.put p2 q2).grow (Ext.alloc _ (.cells #[.int .i64 p2,.int .i64 q2] 62)));go_wp2_with fail
      go_roundg (g1-1)
      case measure=>have:=HK.o;omega
      case rel=>exact⟨k+1,p2,q2,ae (j1 HK.o),by go_num,Ie,Dh⟩
   ·have zQ:n=k:=by have:=HK.o;omega
    subst zQ;have HY:=ae (show zr A B=some (p,q)by rw[HD.o];exact HT.o);have hr:=aj (CZ.o G HB.o.ext);obtain⟨A',AX,GA⟩:=hr;go_wp2_with fail;refine bR (v:=.tuple #[.agg #[.int .i64 p,.int .i64 q],.bool true]) (by simp[results,acF,go_sem,A',AX]) rfl ⟨by rw[HY.o];rfl,(((I4.o.trans HB.o.ext).store 0 (ao _) _).store 1 (ao _) _)⟩
 ·have HN:=ae (show zr A B=none by unfold zr;rw[HL.o,PX.o,hD hne]);have Qj:((n:Int) != (Q:Int))=true:=by simp;omega
  have hr:=aj zF.o;obtain⟨A',AX,GA⟩:=hr;go_enter Tryz.func197,Tryz.ntmps197
  go_wp2_with fail;refine bR (v:=.tuple #[.agg #[.int .i64 0,.int .i64 0],.bool false]) (by simp[results,acF,go_sem,A',AX]) rfl ⟨by rw[HN.o];rfl,y7.o⟩
theorem qe{j:Nat}(h:k<A.length):zP (A.take k) j++[(A[k]?.getD [])[j]?.getD 0]=zP (A.take (k+1)) j:=by
 rw[eF h];simp[zP]
theorem sF{G ca:Nat}{b:j6}{nb cb:Nat}{c:j6}{nc cc:Nat}(h:cH w a G ca A){j:Nat}(hl:∀i,i<G->(A[i]?.getD []).length=m)(hj:j<m)(hm:m<=1000000)(hbig:G<=1048576):
 Calls Tryz.prog 198 #[DD a G ca b nb cb c nc cc,.int .i64 (j:Int)] w fun e w'=>(∃v,e=.returned v/\o4 w' w.heap.size v (zP A j))/\Ext w w':=by
 have l8:=h.l8;have l9:=h.l9;have HL:=ae h.hlen;have y9:=Ext.alloc w (bj a G ca b nb cb c nc cc);have y7:=ae y9;have HI:=ae (h.ext y9);have AN:=ae hl;have HO:=ae (o4.Az (w.alloc (bj a G ca b nb cb c nc cc)) (w.heap.size+1) _ rfl e8);clear h y9 hl;go_enter Tryz.func198,Tryz.ntmps198
 go_wp2_with fail
 go_loopg [5,12] G (fun gk o ii wr=>∃(k:Nat) (a1:j6) (I p1:Nat),b7 (gk+k=G)/\ii=.int .i64 (k:Int)/\o=.slice a1 I p1/\b7 (o4 wr (w.heap.size+1) (.slice a1 I p1) (zP (A.take k) j))/\b7 (Ext (w.alloc (bj a G ca b nb cb c nc cc)) wr))
 case atStart=>exact⟨0,_,_,_,ae e7,rfl,rfl,ae (by simpa[zP]using HO.o),ae (Ext.alloc _ _)⟩
 case round =>
  obtain⟨g1,Q⟩:=b9 gk;subst Q;obtain⟨o6,U⟩:=b9 wr;subst U;obtain⟨k,a1,I,p1,K,rfl,rfl,zv,yZ⟩:=hrel;have J:=yZ.o.size;rw[V4]at J;by_cases hlt:k<G
  ·obtain⟨gb,DU,ra,rn,rc,rfl,Ku,o8⟩:=(HI.o.ext yZ.o).at hlt;have CP:rn=m:=by rw[<-o8.hlen];exact AN.o k hlt
   subst CP;obtain⟨eb,zl,rfl,S7⟩:=o8.at hj;obtain⟨x,hx⟩:=b9 ((A[k]?.getD [])[j]?.getD 0);rw[<-hx]at S7;have HS:=ae (show zP (A.take k) j++[x]=zP (A.take (k+1)) j by rw[hx];exact qe (by rw[HL.o];exact hlt));have Ib:=ae (show(zP (A.take k) j).length=k by simp[zP];have:=HL.o;omega);have Io:=o8.l8;have Yo:=o8.l9;clear o8 hx
   go_wp2_with (first
    | (at_builtin;refine bu rfl _ _ rfl (w.heap.size+1) (.slice a1 I p1) _ rfl (zv.o.ext (Ext.alloc _ _)) _ 1 _ [x] rfl (Ints.CL _ _ _ _ e8) (by rw[Ib.o];omega) (by simp;omega) ?_;intro v2 w3 ho hg k9;have X5:=ae (ak (yZ.o.trans (Ext.alloc _ _)) hg (fun i hi=>by have:=(zv.o.lt i hi).1;simpa using this));obtain⟨a2,Z,c2,rfl,Gu⟩:=ho.var;have Ar:=ae ho;clear ho hg k9))
   go_roundg (g1-1)
   case measure=>have:=K.o;omega
   case rel=>exact⟨k+1,a2,Z,c2,ae (j1 K.o),by go_num,rfl,ae (by rw[<-HS.o];exact Ar.o),X5⟩
  ·have O:G=k:=by have:=K.o;omega
   subst O;have HT:=ae (show A.take G=A from p4 (by rw[HL.o];exact ao _));rw[HT.o]at zv;go_wp2_with fail;go_ret;exact⟨⟨_,rfl,zv.o.mono (Cj _)⟩,y7.o.trans yZ.o⟩
structure Hg(w:World)(ra:j6)(rn rc:Nat)(ba:j6)(bn bc:Nat)(t:Tb):Prop where
 rows:gY w ra rn rc t.rows
 basis:Ints w ba bn bc t.basis
theorem Hg.ext{ra:j6}{rn rc:Nat}{ba:j6}{bn bc:Nat}{t:Tb}(h:Hg w ra rn rc ba bn bc t)(hx:Ext w w'):Hg w' ra rn rc ba bn bc t:=⟨h.rows.ext hx,h.basis.ext hx⟩
abbrev Gw(ra:j6)(rn rc:Nat)(ba:j6)(bn bc:Nat)(x:Int):Value:=.agg #[.slice ra rn rc,.slice ba bn bc,.int .i64 x]
abbrev cj(ra:j6)(rn rc:Nat)(ba:j6)(bn bc:Nat)(x:Int):Obj:=.cells #[.slice ra rn rc,.slice ba bn bc,.int .i64 x] 116
structure Dz(w:World)(base g:Nat)(va vb:Value)(x:Int)(vs:List Value)(M:List (j4))(l:j7):Prop where
 box:w.heap[g]?=some (.cells #[va,vb,.int .i64 x] 116 (0,0))
 hg:base<=g
 a:Bi w base va vs
 rows:dJ w base vs M
 b:o4 w base vb l
section
variable{w:World}{base g:Nat}{va vb:Value}{x:Int}{vs:List Value}{M:List (j4)}{l:j7}
theorem Dz.lt(h:Dz w base g va vb x vs M l):g<w.heap.size:=mr h.box
theorem Dz.ext{w':World}(h:Dz w base g va vb x vs M l)(hx:Ext w w'):Dz w' base g va vb x vs M l :=
 ⟨(hx.block _ h.lt).trans h.box,h.hg,h.a.ext hx,h.rows.ext hx,h.b.ext hx⟩
theorem am{x y z:Value}{t:TypeId}(h:w.heap[g]?=some (.cells #[x,y,z] t (0,0))):w.cell? ⟨g,0,none⟩=some x:=by rw[tn w g 0 _ _ _ h];rfl
theorem aD{x y z:Value}{t:TypeId}(h:w.heap[g]?=some (.cells #[x,y,z] t (0,0))):w.cell? ⟨g,1,none⟩=some y:=by rw[tn w g 1 _ _ _ h];rfl
theorem aG{x y z:Value}{t:TypeId}(h:w.heap[g]?=some (.cells #[x,y,z] t (0,0))):w.cell? ⟨g,2,none⟩=some z:=by rw[tn w g 2 _ _ _ h];rfl
theorem dp{x y z:Value}{t:TypeId}(h:w.heap[g]?=some (.cells #[x,y,z] t (0,0)))(k:Nat):w.frozen? ⟨g,k,none⟩=false:=sd w g k _ _ h
theorem Dz.FV{w1 w2:World}(h:Dz w base g va vb x vs M l)(hx:Ext w w1){vr JU:Value}{r:j4}(hr:o0 w1 w.heap.size vr r)(OP:base<=w.heap.size)(G:w1.grownBy w2 va.ownBlock)(ho:Bi w2 base JU (vs++[vr])):
 Dz (w2.setCell ⟨g,0,none⟩ JU) base g JU vb x (vs++[vr]) (M++[r]) l:=by
 have h1:=h.ext hx;have AR:w2.heap[g]?=some (.cells #[va,vb,.int .i64 x] 116 (0,0)):=(G.block g h1.lt (au h1.a h1.box (by decide))).trans h1.box;have BA:∀k,k≠g->(w2.setCell ⟨g,0,none⟩ JU).heap[k]?=w2.heap[k]?:=fun k hk=>bB _ _ _ _ hk
 have Tg:o4 w2 base vb l:=h1.b.keep fun k hk=>G.block k (h1.b.lt k hk).2 fun e=>bh (by decide) h1.b h1.a k hk e.symm
 have Va:dJ w1 base (vs++[vr]) (M++[r]):=h.rows.snoc hx hr OP;have K4:dJ w2 base (vs++[vr]) (M++[r]):=Va.keep fun i k hi hk=>G.block k ((Va.row i hi).lt k hk).2 fun e=>(Va.row i hi).apart h1.a k hk e.symm
 refine⟨?_,h.hg,?_,?_,?_⟩
 ·have:=ta w2 g 0 _ _ JU AR;exact this
 ·exact ho.keep fun k hk=>BA k fun e=>(au ho AR (by decide)) (by rw[hk,e])
 ·exact K4.keep fun i k hi hk=>BA k fun e=>(au (K4.row i hi) AR (by decide)) (by rw[hk,e])
 ·exact Tg.keep fun k hk=>BA k fun e=>(au Tg AR (by decide)) (by rw[hk,e])
theorem Dz.Kz{w1 w2:World}(h:Dz w base g va vb x vs M l)(hx:Ext w w1)(hg:w1.grownBy w2 va.ownBlock):w2.heap[g]?=some (.cells #[va,vb,.int .i64 x] 116 (0,0)) :=
 (hg.block g (h.ext hx).lt (au (h.ext hx).a (h.ext hx).box (by decide))).trans (h.ext hx).box
theorem Dz.LI{w1 w2:World}(h:Dz w base g va vb x vs M l)(hx:Ext w w1)(hg:w1.grownBy w2 vb.ownBlock):w2.heap[g]?=some (.cells #[va,vb,.int .i64 x] 116 (0,0)) :=
 (hg.block g (h.ext hx).lt (au (h.ext hx).b (h.ext hx).box (by decide))).trans (h.ext hx).box
theorem Dz.pushB{w1 w2:World}(h:Dz w base g va vb x vs M l)(hx:Ext w w1){KQ:Value}{I:j7}(G:w1.grownBy w2 vb.ownBlock)(ho:o4 w2 base KQ I):
 Dz (w2.setCell ⟨g,1,none⟩ KQ) base g va KQ x vs M I:=by
 have h1:=h.ext hx;have AR:=h.LI hx G;have BA:∀k,k≠g->(w2.setCell ⟨g,1,none⟩ KQ).heap[k]?=w2.heap[k]?:=fun k hk=>bB _ _ _ _ hk
 have Th:Bi w2 base va vs:=h1.a.keep fun k hk=>G.block k (h1.a.lt k hk).2 fun e=>bh (by decide) h1.a h1.b k hk e.symm
 have K4:dJ w2 base vs M:=h1.rows.keep fun i k hi hk=>G.block k ((h1.rows.row i hi).lt k hk).2 fun e=>bh (by decide) (h1.rows.row i hi) h1.b k hk e.symm
 refine⟨?_,h.hg,?_,?_,?_⟩
 ·have:=ta w2 g 1 _ _ KQ AR;exact this
 ·exact Th.keep fun k hk=>BA k fun e=>(au Th AR (by decide)) (by rw[hk,e])
 ·exact K4.keep fun i k hi hk=>BA k fun e=>(au (K4.row i hi) AR (by decide)) (by rw[hk,e])
 ·exact ho.keep fun k hk=>BA k fun e=>(au ho AR (by decide)) (by rw[hk,e])
theorem Dz.new{G:World}{vb:Value}{base':Nat}(hb:o4 G base' vb l)(I:base<=base')(hs:base<=G.heap.size):
 Dz (G.alloc (.cells #[.slice none 0 0,vb,.int .i64 x] 116)) base G.heap.size (.slice none 0 0) vb x [] [] l :=
 ⟨L' _ _,hs,aaC _ base _ 1,dJ.nil _ _,(hb.mono I).ext (Ext.alloc _ _)⟩
theorem Dz.Q1{G:World}{vb v0 v1 v2:Value}{base':Nat}(AR:G.heap[g]?=some (.cells #[v0,v1,v2] 116 (0,0)))(hb:o4 G base' vb l)(I:base<=base')(hs:base<=g):
 Dz (((G.setCell ⟨g,0,none⟩ (.slice none 0 0)).setCell ⟨g,1,none⟩ vb).setCell ⟨g,2,none⟩ (.int .i64 x)) base g (.slice none 0 0) vb x [] [] l:=by
 have e1:=ta G g 0 _ _ (.slice none 0 0) AR;have e2:=ta _ g 1 _ _ vb e1;have e3:=ta _ g 2 _ _ (.int .i64 x) e2;refine⟨e3,hs,aaC _ base _ 1,dJ.nil _ _,?_⟩;refine(hb.mono I).keep fun k hk=>?_
 have hne:k≠g:=fun e=>(au hb AR (by decide)) (by rw[hk,e])
 rw[bB _ _ _ _ hne,bB _ _ _ _ hne,bB _ _ _ _ hne]
end
structure AJ(w:World)(base:Nat)(va vb:Value)(vs:List Value)(t:Tb):Prop where
 a:Bi w base va vs
 rows:dJ w base vs t.rows
 b:o4 w base vb t.basis
theorem AJ.ext{t:Tb}(h:AJ w base va vb vs t)(hx:Ext w w'):AJ w' base va vb vs t:=⟨h.a.ext hx,h.rows.ext hx,h.b.ext hx⟩
theorem AJ.mono{t:Tb}(h:AJ w base va vb vs t)(hb:base'<=base):AJ w base' va vb vs t :=
 ⟨by
  refine⟨h.a.1,?_⟩
  rcases h.a.2 with hn|⟨g,cap,cur,rfl,Bg,rest⟩
  ·exact .inl hn
  ·exact .inr ⟨g,cap,cur,rfl,SC hb Bg,rest⟩,⟨h.rows.len,fun i hi=>(h.rows.row i hi).mono hb,h.rows.apart⟩,h.b.mono hb⟩
theorem AJ.CW{ra:j6}{rn rc:Nat}{ba:j6}{bn bc:Nat}{t:Tb}(h:AJ w base (.slice ra rn rc) (.slice ba bn bc) vs t):Hg w ra rn rc ba bn bc t :=
 ⟨nZ.Xu ⟨vs,h.a,h.rows⟩,h.b.ints⟩
theorem AJ.AL{t:Tb}(h:AJ w base va vb vs t)(hk:∀k,base<=k->w'.heap[k]?=w.heap[k]?):AJ w' base va vb vs t :=
 ⟨h.a.keep fun k e=>hk k (h.a.lt k e).1,h.rows.keep fun i k hi e=>hk k ((h.rows.row i hi).lt k e).1,h.b.keep fun k e=>hk k (h.b.lt k e).1⟩
theorem dd(w:World)(b k:Nat)(x y z:Value)(h:k≠b):(((w.setCell ⟨b,0,none⟩ x).setCell ⟨b,1,none⟩ y).setCell ⟨b,2,none⟩ z).heap[k]?=w.heap[k]?:=by
 rw[bB _ _ _ _ h,bB _ _ _ _ h,bB _ _ _ _ h]
theorem Dz.own{x:Int}{M:List (j4)}{l:j7}(h:Dz w base g va vb x vs M l):AJ w base va vb vs ⟨M,l,x⟩:=⟨h.a,h.rows,h.b⟩
theorem Ext.CH(h:Ext w w')(hb:w.heap.size<=b)(x y z:Value):Ext w (((w'.setCell ⟨b,0,none⟩ x).setCell ⟨b,1,none⟩ y).setCell ⟨b,2,none⟩ z):=((h.setCell (p:=⟨b,0,none⟩) hb _).setCell (p:=⟨b,1,none⟩) hb _).setCell (p:=⟨b,2,none⟩) hb _
theorem og{cap:Nat}{l:j4}(h:Rats w a n cap l)(hb:n<=1099511627776):
 Calls Tryz.prog 250 #[.slice a n cap] w fun e w'=>∃v,e=.returned v/\o0 w' w.heap.size v l/\Ext w w':=by
 have heq:∀w':World,(binOp .eql 35 (.slice a n cap) (.slice none 0 0)).run Tryz.prog w'=.ok (.bool a.isNone) w':=fun w'=>abJ w' _ _ a n cap 0 0 ade
 have HL:=ae h.hlen;cases a with
 | none =>
   have hl:l=[]:=by
    have:¬0<n:=fun hn=>by obtain⟨b,off,e,_⟩:=h.cell 0 hn;cases e
    exact Lj (j1 HL.o)
   simp only[ab0]at heq;go_enter Tryz.func250,Tryz.ntmps250
   go_wp2
   go_ret;exact⟨_,rfl,by rw[hl];exact o0.nil w _,Ext.refl _⟩
 | some ad =>
   simp only[ab1]at heq;have HI:=ae (h.ext (Ext.alloc w (.cells #[] 62)));have HO:=ae (o0.made w w.heap.size (ao _));clear h;go_enter Tryz.func250,Tryz.ntmps250
   go_wp2_with (first|(at_builtin;refine aM rfl _ _ rfl w.heap.size _ _ rfl HO.o _ n _ l rfl HI.o (by simpa using hb) e8 ?_;intro v' w1 ho hg k9));go_ret;exact⟨_,rfl,by simpa using ho,ak (Ext.alloc _ _) hg (fun k hk=>aas (Og (show some w.heap.size=some k from hk)))⟩
def TK(P:Program)(w:World)(fid:FuncId)(ca:Array Value)(p:j4->Bool):Prop :=
 ∀a n cap r (w1:World),Ext w w1->Rats w1 a n cap r->Calls P fid (#[.slice a n cap]++ca) w1 fun e w2=>e=.returned (.bool (p r))/\Ext w1 w2
theorem pP{cap:Nat}{l:List (j4)}{ca:Array Value}{p:j4->Bool}(h:gY w a n cap l)(hg:IsGo Tryz.prog fid)(hf:TK Tryz.prog w fid ca p):
 Calls Tryz.prog 264 #[.slice a n cap,.func (.func fid) #[] ca] w fun e w'=>e=.returned (.int .i64 (cl p l))/\Ext w w':=by
 have hn:=h.l8;have hm:=h.l9;have HL:=ae h.hlen;have HI:=ae h;have I:=ae hf;clear h hf;have OI:∀(args:Array Value) (w:World),(callFunc fid args).run Tryz.prog w=.ok (.enter fid args) w:=hg;go_enter Tryz.func264,Tryz.ntmps264
 go_wp2_with fail
 go_loopg [8] n (fun gk ii wr=>∃k:Nat,b7 (gk+k=n)/\ii=.int .i64 (k:Int)/\b7 ((l.take k).all (fun x=>!p x)=true)/\b7 (Ext w wr))
 case atStart=>exact⟨0,ae e7,rfl,ae rfl,ae (Ext.refl _)⟩
 case round =>
  obtain⟨g1,K⟩:=b9 gk;subst K;obtain⟨O,Q⟩:=b9 wr;subst Q;obtain⟨k,G,rfl,HA,HX⟩:=hrel;by_cases hlt:k<n
  ·obtain⟨b,off,ra,rn,rc,rfl,AB,o8⟩:=(HI.o.ext HX.o).at hlt;have HF:=ae (I.o _ _ _ _ O HX.o o8);clear o8;have J:=ae (show k<l.length by rw[HL.o];exact hlt);cases hb:p (l[k]?.getD [])
   all_goals
    rw[hb]at HF
   ·have HT:=ae (show(l.take (k+1)).all (fun x=>!p x)=true by
     rw[eF J.o,RN,HA.o];simp only[ac5,aem,hb];rfl)
    clear hb;go_wp2_with fail;refine HF.o.mono ?_;rintro e w2 ⟨rfl,zJ⟩;go_wp2_with fail
    go_roundg (g1-1)
    case measure=>have:=G.o;omega
    case rel=>exact⟨k+1,ae (j1 G.o),by go_num,HT,ae (HX.o.trans zJ)⟩
   ·have HB:=ae (show cl p l=k from eQ (d:=[]) J.o HA.o hb);clear hb;go_wp2_with fail;refine HF.o.mono ?_;rintro e w2 ⟨rfl,zJ⟩;go_wp2_with fail;go_ret;exact⟨ap HB.o.symm,HX.o.trans zJ⟩
  ·have HT:=ae (show cl p l=-1 by
    have h2:=HA.o;rw[p4 (by rw[HL.o];have:=G.o;omega)]at h2
    exact dP h2)
   go_wp2_with fail;go_ret;exact⟨ap HT.o.symm,HX.o⟩
theorem mc{cap:Nat}{l:List (j4)}{ca:Array Value}{p:j4->Bool}(h:gY w a n cap l)(hg:IsGo Tryz.prog fid)(hf:TK Tryz.prog w fid ca p):
 Calls Tryz.prog 256 #[.slice a n cap,.func (.func fid) #[] ca] w fun e w'=>e=.returned (.bool (l.any p))/\Ext w w':=by
 have HC:=ae (pP h hg hf);clear h hf;go_enter Tryz.func256,Tryz.ntmps256
 go_wp2_with fail;refine HC.o.mono ?_;rintro e w2 ⟨rfl,zJ⟩
 go_wp2
 all_goals go_ret;refine⟨ag ?_,zJ⟩;rw[<-gG]
theorem xP(z:Int){h:Nat}{x:Int}(hx:0<=x/\x<=1000)(hm:m<=1048576)(h1:w.cell? ⟨g,2,none⟩=some (.int .i64 x))(h2:w.cell? ⟨h,0,none⟩=some (.int .i64 (m:Int))):
 Calls Tryz.prog 255 #[.int .i64 z,.pointer (some ⟨g,0,none⟩),.pointer (some ⟨h,0,none⟩)] w fun e w'=>e=.returned (.bool (!r9 z 0 (x+(m:Int)-1)))/\Ext w w':=by
 obtain⟨y9,zK⟩:=hx;go_enter Tryz.func255,Tryz.ntmps255
 go_wp2_with (first|(go_at_call 61;refine(aq _ _ _ _).mono ?_;rintro e w' ⟨rfl,rfl⟩));go_ret;exact⟨rfl,Ext.refl _⟩
theorem wj:IsGo Tryz.prog 255:=isGo Tryz.func255 e9 e9
theorem xQ{cap:Nat}{r:j4}(hr:Rats w a n cap r){h:Nat}{x:Int}(hx:0<=x/\x<=1000)(hm:m<=1048576)(h1:w.cell? ⟨g,2,none⟩=some (.int .i64 x))(h2:w.cell? ⟨h,0,none⟩=some (.int .i64 (m:Int))):
 Calls Tryz.prog 257 #[.slice a n cap,.pointer (some ⟨g,0,none⟩),.pointer (some ⟨h,0,none⟩)] w fun e w'=>e=.returned (.bool (!decide ((r.length:Int)=x+(m:Int)+1)))/\Ext w w':=by
 obtain⟨y9,zK⟩:=hx;have hc:=hr.l8;have hm:=hr.l9;have HL:=ae hr.hlen;clear hr;go_enter Tryz.func257,Tryz.ntmps257
 go_wp2_with fail;go_ret;refine⟨ag ?_,Ext.refl _⟩;rw[HL.o];by_cases e:(n:Int)=x+(m:Int)+1
 ·rw[z' e];simpa using e
 ·rw[u' e];simpa using e
theorem wk:IsGo Tryz.prog 257:=isGo Tryz.func257 e9 e9
theorem Q5(l:List α)(p:α->Bool):(!l.any fun x=>!p x)=l.all p:=by rw[aaw];simp
theorem uQ(l:List α)(p:α->Bool):(l.any fun x=>!p x)=!l.all p:=by rw[<-Q5,Bool.not_not]
section
variable{w:World}{ra:j6}{rn rc:Nat}{ba:j6}{bn bc:Nat}{t:Tb}
theorem iY(h:Hg w ra rn rc ba bn bc t)(O:rn<=1048576):
 Calls Tryz.prog 236 #[Gw ra rn rc ba bn bc t.r7] w fun e w'=>e=.returned (.bool (Cl t))/\Ext w w':=by
 obtain⟨rows,basis,x⟩:=t;have y9:=(Ext.alloc w (cj ra rn rc ba bn bc x)).trans (Ext.alloc _ (.cells #[.int .i64 (rn:Int)] 3));have y7:=ae y9;have H:=ae (h.ext y9);have AX:=h.rows.l8;have B9:=h.rows.l9;have AS:=h.basis.l8;have AD:=h.basis.l9;have A1:=ae h.rows.hlen;have AO:=ae h.basis.hlen
 have HE:=ae (show Cl ⟨rows,basis,x⟩=(r9 x 0 1000&&(decide (bn=rn)&&(basis.all (fun b=>r9 b 0 (x+(rn:Int)-1))&&rows.all (fun r=>decide ((r.length:Int)=x+(rn:Int)+1)))))by
  unfold Cl;simp only
  rw[h.rows.hlen,h.basis.hlen])
 clear h y9
 show Calls _ _ #[Gw ra rn rc ba bn bc x] w _;have HW:=ae (fun w=>aq x 0 1000 w);cases zU:r9 x 0 1000
 ·rw[zU]at HW HE;clear zU;go_enter adp,ac7
  go_wp2_with fail;refine(HW.o _).mono ?_;rintro e w1 ⟨rfl,rfl⟩;go_wp2_with fail;go_ret;exact⟨ag HE.o.symm,y7.o⟩
 ·have I:0<=x/\x<=1000:=by unfold r9 at zU;simp at zU;exact zU
  have LN:=ae I;rw[zU]at HW HE;clear zU I;by_cases K:bn=rn
  ·subst K;have Bg:((bn:Int) != (bn:Int))=false:=by simp
   have CU:=ae (show Cl ⟨rows,basis,x⟩=(basis.all (fun b=>r9 b 0 (x+(bn:Int)-1))&&rows.all (fun r=>decide ((r.length:Int)=x+(bn:Int)+1)))by rw[HE.o,z' rfl];rfl);have G:=ae (de (ca:=#[.pointer (some ⟨w.heap.size,0,none⟩),.pointer (some ⟨w.heap.size+1,0,none⟩)]) H.o.basis wj (p:=fun b=>!r9 b 0 (x+(bn:Int)-1)) (fun z w1 hx=>xP z LN.o O (hx.j9 e8) (hx.j9 e8)));rw[uQ]at G;cases hb:basis.all (fun b=>r9 b 0 (x+(bn:Int)-1))
   ·rw[hb]at G CU;clear hb;go_enter adp,ac7
    go_wp2_with fail;refine(HW.o _).mono ?_;rintro e w1 ⟨rfl,rfl⟩;go_wp2_with fail;refine G.o.mono ?_;rintro e w2 ⟨rfl,hx⟩;have X2:=ae (y7.o.trans hx);clear hx;go_wp2_with fail;go_ret;exact⟨ag CU.o.symm,X2.o⟩
   ·rw[hb]at G CU;clear hb;go_enter adp,ac7
    go_wp2_with fail;refine(HW.o _).mono ?_;rintro e w1 ⟨rfl,rfl⟩;go_wp2_with fail;refine G.o.mono ?_;rintro e w2 ⟨rfl,hx⟩;have J:=ae (mc (ca:=#[.pointer (some ⟨w.heap.size,0,none⟩),.pointer (some ⟨w.heap.size+1,0,none⟩)]) (H.o.ext hx).rows wk (p:=fun r=>!decide ((r.length:Int)=x+(bn:Int)+1)) (fun a n cap r w1 zJ hr=>xQ hr LN.o O ((hx.trans zJ).j9 e8) ((hx.trans zJ).j9 e8)));rw[uQ]at J;have hq:w2.cell? ⟨w.heap.size,0,none⟩=some (.slice ra bn rc):=hx.j9 e8;have X2:=ae (y7.o.trans hx);clear hx;go_wp2_with fail;refine J.o.mono ?_;rintro e w3 ⟨rfl,hx⟩;have X3:=ae (X2.o.trans hx);clear hx;go_wp2_with fail;go_ret;exact⟨ag (by rw[CU.o];simp),X3.o⟩
  ·have Bg:((bn:Int) != (rn:Int))=true:=by simp;omega
   have HF:=ae (show Cl ⟨rows,basis,x⟩=false by rw[HE.o,u' K];rfl);go_enter adp,ac7
   go_wp2_with fail;refine(HW.o _).mono ?_;rintro e w1 ⟨rfl,rfl⟩;go_wp2_with fail;go_ret;exact⟨ag HF.o.symm,y7.o⟩
theorem jO(h:Hg w ra rn rc ba bn bc t)(CP:rn<=1048576)(Hc:bn<=1048576)(Gz:∀i,i<rn->(t.row i).length<=1048576):
 Calls Tryz.prog 254 #[Gw ra rn rc ba bn bc t.r7] w fun e w'=>(∃va vb vs,e=.returned (.agg #[va,vb,.int .i64 t.r7])/\AJ w' w.heap.size va vb vs t)/\Ext w w':=by
 obtain⟨rows,basis,x⟩:=t;have y9:=(Ext.alloc w (cj ra rn rc ba bn bc x)).trans (Ext.alloc _ (.cells #[.slice none 0 0,.slice none 0 0,.int .i64 0] 116));obtain⟨W,hW⟩:=b9 ((w.alloc (cj ra rn rc ba bn bc x)).alloc (.cells #[.slice none 0 0,.slice none 0 0,.int .i64 0] 116));rw[<-hW]at y9;have y7:=ae y9;have H:=ae (h.ext y9);have AX:=h.rows.l8;have B9:=h.rows.l9;have A1:=ae h.rows.hlen;have Br:=ae Gz;have p0:W.cell? ⟨w.heap.size,0,none⟩=some (.slice ra rn rc):=by rw[hW];simp
 have p1:W.cell? ⟨w.heap.size,1,none⟩=some (.slice ba bn bc):=by rw[hW];simp
 have p2:W.cell? ⟨w.heap.size,2,none⟩=some (.int .i64 x):=by rw[hW];simp
 have Af:=ae (show W.heap[w.heap.size+1]?=some (.cells #[.slice none 0 0,.slice none 0 0,.int .i64 0] 116 (0,0))by rw[hW];exact ai _ _ _ e8);have CR:=ae (show W.heap.size=w.heap.size+1+1 by rw[hW];simp);clear h y9 Gz
 show Calls _ _ #[Gw ra rn rc ba bn bc x] w _;go_enter Tryz.func254,Tryz.ntmps254
 go_upto_region 1 with fail;rw[<-hW];clear hW
 go_cut [3] (fun s wx=>∃(g:Nat) (a3:j6) (G c3:Nat),s=.pointer (some ⟨g,0,none⟩)/\b7 (Dz wx W.heap.size g (.slice none 0 0) (.slice a3 G c3) x [] [] basis)/\b7 (Ext W wx))
 case first =>
  have k7:Ext W W.drew:=Ext.drew W;have J:Ext W (W.alloc (.cells #[.slice none 0 0,.slice none 0 0,.int .i64 0] 116)).drew:=(Ext.alloc _ _).trans (Ext.drew _);have k8:=ae (fun(w':World) (h:Ext W w')=>(⟨h.j9 p0,h.j9 p1,h.j9 p2,h⟩:w'.cell? ⟨w.heap.size,0,none⟩=some (.slice ra rn rc)/\w'.cell? ⟨w.heap.size,1,none⟩=some (.slice ba bn bc)/\w'.cell? ⟨w.heap.size,2,none⟩=some (.int .i64 x)/\Ext W w'))
  go_region_held3 (fun w'=>w'.cell? ⟨w.heap.size,0,none⟩=some (.slice ra rn rc)/\w'.cell? ⟨w.heap.size,1,none⟩=some (.slice ba bn bc)/\w'.cell? ⟨w.heap.size,2,none⟩=some (.int .i64 x)/\Ext W w')
   (first
     | with_reducible exact k8.o _ k7
     | with_reducible exact k8.o _ J
     | with_reducible exact k8.o _ (k7.trans (Ext.alloc _ _))
     | with_reducible exact k8.o _ (((k7.setCell (ao _) _).setCell (ao _) _).setCell (ao _) _))
   (first
     | (go_at_call 62
        (with_reducible refine(iy (H.o.ext (by first|with_reducible exact k7|with_reducible exact J|with_reducible exact k7.trans (Ext.alloc _ _))).basis e7).mono ?_)
        rintro e w3 ⟨v3,rfl,Z,K⟩;obtain⟨a3,G,c3,rfl,Ff⟩:=Z.var
        first|(
           have WK:w3.heap[W.heap.size]?=some (.cells #[.slice none 0 0,.slice none 0 0,.int .i64 0] 116 (0,0)):=Ext.blk K (show(W.alloc (.cells #[.slice none 0 0,.slice none 0 0,.int .i64 0] 116)).drew.heap[W.heap.size]?=_ from L' W _);have Dy:=am WK;have Dx:=aD WK;have ZD:=aG WK;have ZB:=dp WK;have EO:=ae WK
           clear WK)|skip
        have k7:Ext W w3:=by first|with_reducible exact k7.trans K|with_reducible exact J.trans K
        have A0:=k7.size)
     | fail)
  all_goals
   go_wp2_with fail;go_meet
  ·exact⟨_,a3,G,c3,rfl,ae (Dz.new Z (ao _) A0),ae (k7.trans (Ext.alloc _ _))⟩
  ·exact⟨_,a3,G,c3,rfl,ae (Dz.Q1 EO.o Z J.size (ao _)),ae (((k7.setCell (ao _) _).setCell (ao _) _).setCell (ao _) _)⟩
 obtain⟨g,a3,G,c3,rfl,HT,yZ⟩:=hcut;replace p0:=yZ.o.j9 p0;clear p1 p2;go_wp2_with fail
 go_loopg [15] rn (fun gk ii wr=>∃(k:Nat) (va:Value) (vs:List Value),b7 (gk+k=rn)/\ii=.int .i64 (k:Int)/\b7 (Dz wr W.heap.size g va (.slice a3 G c3) x vs (rows.take k) basis)/\b7 (Ext W wr))
 case atStart=>exact⟨0,_,_,ae e7,rfl,HT,yZ⟩
 case round =>
  obtain⟨g1,o7⟩:=b9 gk;subst o7;obtain⟨o6,o5⟩:=b9 wr;subst o5;obtain⟨k,va,vs,O,rfl,T,HX⟩:=hrel;clear p0;by_cases hlt:k<rn
  ·obtain⟨zb,zL,za,zn,zc,Dp,AU,o8⟩:=(H.o.ext HX.o).rows.at hlt;subst Dp;have Lp:zn<=1048576:=by rw[<-o8.hlen];exact Br.o k hlt
   have CA:=ae o8;have t0:=am T.o.box;have I1:=T.o.lt;have Rr:=HX.o.size;have AM:=ae (show vs.length=k by rw[T.o.rows.len,FX];have h2:rows.length=rn:=A1.o;omega);clear o8;go_upto_region 5 with fail
   go_region_law (first
    | (refine bI _ rfl (eZ _ _ rfl W.heap.size va vs rfl ((T.o.ext D0.o).a.ext (Ext.alloc _ _)) _ _ 1 rfl (by first|(simp;done)|(simp;rfl)) rfl (j1 AM.o) (by first|(simp;done)|(simp;omega)) ?_);intro v6 w6 Oo S6 hn6;have U:=T.o.Kz (D0.o.trans (Ext.alloc _ _)) S6;have c0:=am U;have cf:=dp U;obtain⟨a6,n6,c6,rfl,H'⟩:=Oo.var;have Cf:=ae Oo;have Tz:=ae S6;clear Oo S6 hn6 U)
    | (go_simp;go_at_call 250;refine(og (CA.o.ext (Ext.drew _)) e7).mono ?_;rintro e w5 ⟨v5,rfl,Q,AK⟩;obtain⟨a5,n5,c5,rfl,CF⟩:=Q.var;have D0:=ae ((Ext.drew o6).trans AK);have zW:=ae Q;have EK:=D0.o.size;have hg5:g<w5.heap.size:=e7;replace t0:=D0.o.j9 t0;clear Q AK))
   all_goals
    go_wp2_with fail;have J4:=ae (T.o.FV (D0.o.trans (Ext.alloc _ _)) (zW.o.ext (Ext.alloc _ _)) Rr Tz.o Cf.o);have IB:=ae ((ak ((HX.o.trans D0.o).trans (Ext.alloc _ _)) Tz.o (fun i hi=>(T.o.a.lt i hi).1)).setCell (p:=⟨g,0,none⟩) T.o.hg (.slice a6 n6 c6))
    go_roundg (g1-1)
    case measure=>have:=O.o;omega
    case rel=>exact⟨k+1,_,_,ae (j1 O.o),by go_num,ae (by have:=J4.o;rw[<-eF (by have h2:rows.length=rn:=A1.o;omega)]at this;exact this),IB⟩
  ·have zQ:rn=k:=by have:=O.o;omega
   subst zQ;have H7:=ae (show rows.take rn=rows from p4 (aas A1.o));have J4:=ae (show Dz o6 W.heap.size g va (.slice a3 G c3) x vs rows basis by have:=T.o;rw[H7.o]at this;exact this);have t0:=am T.o.box;have t1:=aD T.o.box;have t2:=aG T.o.box;obtain⟨a7,n7,c7,rfl,H9⟩:=T.o.a.var;have I:=HX.o.blk Af.o;have r0:=am I;have r1:=aD I;have r2:=aG I;have rf:=dp I;have KW:=CR.o;have Rr:=HX.o.size;clear I;go_wp2_with fail;refine bR (v:=.agg #[.slice a7 n7 c7,.slice a3 G c3,.int .i64 x]) (by simp[results,Tryz.results254,go_sem,r0,r1,r2,rf]) rfl ⟨⟨_,_,vs,rfl,?_⟩,?_⟩
   ·exact(J4.o.own.AL fun k hk=>dd _ _ _ _ _ _ e7).mono e7
   ·exact(y7.o.trans HX.o).CH (Cj _) _ _ _
end
