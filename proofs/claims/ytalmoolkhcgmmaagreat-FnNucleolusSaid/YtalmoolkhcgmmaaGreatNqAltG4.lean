import Derived.Test.YtalmoolkhcgmmaaGreatNqAltG3
import Derived.Test.YtalmoolkhcgmmaaGreatNqAltG0
import Derived.StillTail
import Derived.Deep.RegionHeld3
set_option linter.unusedVariables false
set_option linter.unusedSimpArgs false
namespace Go.Proofs.YtalmoolkhcgmmaaGreat
variable{w wr w':World}{cb gb rb m i f k base:Nat}{n x d:Int}{V:j9}{a:Act}{t:TypeId}{listed:Array Bool}{oi:Oper}{v x0 x1:Value}
set_option maxHeartbeats 16000000
set_option maxRecDepth 100000
open Go.RowKit
def Zv(w:World)(cb:Nat)(e:Ending)(w':World):Prop :=
 (∃(x:Int) (a:j8) (m cap:Nat) (V:j9),e=.returned (.agg #[.int .i64 x,.slice a m cap])/\o8 w' w.heap.size (.slice a m cap) V/\m<=17)/\Aa w' cb/\w.grownBy w' (some cb)
structure BS(w wr:World)(cb gb rb:Nat)(x:Int)(a:j8)(m cap:Nat)(V:j9):Prop where
 cur:Aa wr cb
 F7:wr.heap[gb]?=some (.cells #[.int .i64 x,.slice a m cap] 26 (0,0))
 GV:wr.heap[rb]?=some (.cells #[.int .i64 0,.slice none 0 0] 26 (0,0))
 grown:w.grownBy wr (some cb)
 own:o8 wr w.heap.size (.slice a m cap) V
 apart:gb≠cb/\rb≠cb/\rb≠gb/\w.heap.size<=gb/\w.heap.size<=rb
 free:∀k,(Value.slice a m cap).ownBlock=some k->k≠gb/\k≠rb
theorem DS.bs{G n:Nat}(h:DS w wr cb G gb rb n V)(I:V.length=cN n)(hn:cN n<=32):BS w wr cb gb rb (n:Int) (some ⟨G,0,none⟩) (cN n) (cN n) V:=by
 obtain⟨h1,h2,h3,h4,h5,R,O,K,J⟩:=h.apart
 exact⟨h.cur,h.F7,h.GV,h.grown,Row.own h.row O I b9,⟨h2,h3,R,K,J⟩,fun k hk=>by
  simp only[Value.ownBlock,Option.some.injEq]at hk
  omega⟩
theorem BS.c0{a:j8}{cap:Nat}(h:BS w wr cb gb rb x a m cap V):wr.cell? ⟨gb,0,none⟩=some (.int .i64 x):=by rw[cell_of_row wr gb 0 _ _ _ h.F7];rfl
theorem BS.c1{a:j8}{cap:Nat}(h:BS w wr cb gb rb x a m cap V):wr.cell? ⟨gb,1,none⟩=some (.slice a m cap):=by rw[cell_of_row wr gb 1 _ _ _ h.F7];rfl
theorem BS.r0{a:j8}{cap:Nat}(h:BS w wr cb gb rb x a m cap V):wr.cell? ⟨rb,0,none⟩=some (.int .i64 0)/\wr.cell? ⟨rb,1,none⟩=some (.slice none 0 0)/\wr.frozen? ⟨rb,0,none⟩=false/\wr.frozen? ⟨rb,1,none⟩=false :=
 ⟨by rw[cell_of_row wr rb 0 _ _ _ h.GV];rfl,by rw[cell_of_row wr rb 1 _ _ _ h.GV];rfl,frozen_of_row wr rb 0 _ _ h.GV,frozen_of_row wr rb 1 _ _ h.GV⟩
theorem BS.ext{a:j8}{cap:Nat}(h:BS w wr cb gb rb x a m cap V)(hx:Ext wr w'):BS w w' cb gb rb x a m cap V :=
 ⟨h.cur.ext hx,(hx.block _ (lt_of_block h.F7)).trans h.F7,(hx.block _ (lt_of_block h.GV)).trans h.GV,dY h.grown (dX (some cb) hx),h.own.ext hx,h.apart,h.free⟩
theorem BS.fin{a:j8}{cap:Nat}(h:BS w wr cb gb rb x a m cap V)(hm:m<=17):
 Zv w cb (.returned (.agg #[.int .i64 x,.slice a m cap])) ((wr.setCell ⟨rb,0,none⟩ (.int .i64 x)).setCell ⟨rb,1,none⟩ (.slice a m cap)) /\
 ((wr.setCell ⟨rb,0,none⟩ (.int .i64 x)).setCell ⟨rb,1,none⟩ (.slice a m cap)).cell? ⟨rb,0,none⟩=some (.int .i64 x) /\
 ((wr.setCell ⟨rb,0,none⟩ (.int .i64 x)).setCell ⟨rb,1,none⟩ (.slice a m cap)).cell? ⟨rb,1,none⟩=some (.slice a m cap):=by
 obtain⟨h1,h2,h3,h4⟩:=mU (w:=w) h.cur h.GV (by intro y;simp) h.apart.2.1 h.grown h.apart.2.2.2.2 x (.slice a m cap) (by intro y;simp);exact⟨⟨⟨x,a,m,cap,V,rfl,h.own.keep fun k hk=>h3 k (h.free k hk).2,hm⟩,h1,h2⟩,by rw[cell_of_row _ rb 0 _ _ _ h4];rfl,by rw[cell_of_row _ rb 1 _ _ _ h4];rfl⟩
theorem BS.setx{a:j8}{cap:Nat}(h:BS w wr cb gb rb x a m cap V)(y:Int):BS w (wr.setCell ⟨gb,0,none⟩ (.int .i64 y)) cb gb rb y a m cap V:=by
 obtain⟨h1,h2,h3,h4,h5⟩:=h.apart;have ho:∀j,j≠gb->(wr.setCell ⟨gb,0,none⟩ (.int .i64 y)).heap[j]?=wr.heap[j]?:=fun j hj=>heap_setCell_other _ _ _ _ hj
 have hg:=h.grown;refine⟨h.cur.put' h1 (fun j z e=>?_) 0 _,?_,(ho _ h3).trans h.GV,⟨hg.os,hg.tape,hg.output,by simpa using hg.size,fun j hj hn=>(ho j b9).trans (hg.block j hj hn)⟩,h.own.keep fun k hk=>ho k (h.free k hk).1,h.apart,h.free⟩
 ·rw[cell_of_row wr gb j _ _ _ h.F7]at e
  match j with
  | 0=>simp at e
  | 1=>simp at e
  | j+2=>simp at e
 ·have:=heap_setCell_same wr gb 0 _ _ (.int .i64 y) h.F7;exact this
theorem BS.sets{a:j8}{cap:Nat}(h:BS w wr cb gb rb x a m cap V)(hg:wr.grownBy w' (Value.slice a m cap).ownBlock)(hc:Aa w' cb){J:j8}{I G:Nat}{O:j9}(K:o8 w' w.heap.size (.slice J I G) O)(hn:Aw wr (.slice a m cap) (.slice J I G)):
 BS w (w'.setCell ⟨gb,1,none⟩ (.slice J I G)) cb gb rb x J I G O:=by
 obtain⟨h1,h2,h3,h4,h5⟩:=h.apart;have D':=lt_of_block h.F7;have Cg:=lt_of_block h.GV;have R:w'.heap[gb]?=some (.cells #[.int .i64 x,.slice a m cap] 26 (0,0)):=(hg.block _ D' (fun e=>(h.free gb e.symm).1 rfl)).trans h.F7;have U:w'.heap[rb]?=some (.cells #[.int .i64 0,.slice none 0 0] 26 (0,0)):=(hg.block _ Cg (fun e=>(h.free rb e.symm).2 rfl)).trans h.GV;have ho:∀j,j≠gb->(w'.setCell ⟨gb,1,none⟩ (.slice J I G)).heap[j]?=w'.heap[j]?:=fun j hj=>heap_setCell_other _ _ _ _ hj
 have CL:∀k,(Value.slice J I G).ownBlock=some k->k≠gb/\k≠rb:=fun k hk=>by
  rcases hn k hk with e|e
  ·exact h.free k e
  ·omega
 have hw:w.grownBy w' (some cb):=by
  have zF:=h.grown;refine⟨hg.os.trans zF.os,hg.tape.trans zF.tape,hg.output.trans zF.output,Nat.le_trans zF.size hg.size,fun j hj hne=>?_⟩;exact(hg.block j (j4 zF.size) (fun e=>by have:=(h.own.lt j e.symm).1;omega)).trans (zF.block j hj hne)
 refine⟨hc.put' h1 (fun j z e=>?_) 1 _,?_,(ho _ h3).trans U,⟨hw.os,hw.tape,hw.output,by simpa using hw.size,fun j hj hn=>(ho j b9).trans (hw.block j hj hn)⟩,K.keep fun k hk=>ho k (CL k hk).1,h.apart,CL⟩
 ·rw[cell_of_row w' gb j _ _ _ R]at e
  match j with
  | 0=>simp at e
  | 1=>simp at e
  | j+2=>simp at e
 ·have:=heap_setCell_same w' gb 1 _ _ (.slice J I G) R;exact this
theorem Aa.MY{G:Nat}(h:Aa w cb)(hr:Row w G t V)(hne:G≠cb)(hg:w.grownBy w' (some G)):Aa w' cb:=by
 have hl:=h.lt;obtain⟨ba,bn,bc,i,x,h1,h2,h3,h4,h5⟩:=h;refine⟨ba,bn,bc,i,x,(hg.block _ hl (fun e=>hne (Option.some.inj e).symm)).trans h1,⟨h2.o3,h2.l9,fun j hj=>?_⟩,h3,h4,h5⟩;obtain⟨b,off,e,hc⟩:=h2.cell j hj;refine⟨b,off,e,fun j hj=>?_⟩;obtain⟨y,hy,xM⟩:=hc j hj;refine⟨y,(fL (hg.block _ (World.block_lt_of_cell? _ _ hy) ?_) _).trans hy,xM⟩;intro e2;have e3:=Option.some.inj e2;subst e3;rw[cell_of_row w b _ _ _ _ hr]at hy;simp[bw,List.getElem?_map]at hy
theorem K4(h:Aa w cb):
 Calls Tryz.prog 40 #[.pointer (some ⟨cb,0,none⟩)] w (Zv w cb):=by
 have EP:=h.lt;have HX:=ae (Ext.alloc w (.cells #[.int .i64 0,.slice none 0 0] 26));have HC:=ae (h.ext HX.o);have HB:=ae (rB HC.o 4 b9 b9);have Dp:(w.alloc (.cells #[.int .i64 0,.slice none 0 0] 26)).heap[w.heap.size]?=some (.cells #[.int .i64 0,.slice none 0 0] 26 (0,0)):=heap_alloc_new _ _;have xU:=ae Dp;clear h Dp;go_enter Tryz.func40,Tryz.ntmps40
 go_wp2_with fail;refine HB.o.mono ?_;rintro e w1 ⟨⟨n,I,V,rfl,R⟩,hc,hg⟩;have Bj:=R.lo;have EF:=R.hi;have EH:=cu n b9;have MO:cN n<=16:=by
  have:∀k:Fin 5,cN k.val<=16:=by decide
  exact this ⟨n,by omega⟩
 obtain⟨N,hN⟩:=b8 (cN n)
 have HD:=ae (show DS w (w1.alloc (.cells #[.int .i64 (n:Int),.slice (some ⟨I,0,none⟩) (cN n) (cN n)] 26)) cb I w1.heap.size w.heap.size n V by
  have CK:w.grownBy w1 (some cb):=dY (dX (some cb) HX.o) hg;have hv:=R.row.lt;have Wm:=R.new;rw[World.size_alloc]at Wm;have hne:=R.ne;have hx:=Ext.alloc w1 (.cells #[.int .i64 (n:Int),.slice (some ⟨I,0,none⟩) (cN n) (cN n)] 26);have WL:=(dW hg e7 b9).trans xU.o
  exact⟨R.row.ext hx,hc.ext hx,heap_alloc_new _ _,(hx.block _ (lt_of_block WL)).trans WL,dY CK (dX (some cb) hx),by omega⟩)
 have yD:=ae R.len;clear R hc hg;rw[<-hN]at yD;go_wp2_with fail;refine(eO HD.o.cur 12 b9).mono ?_;rintro e w3 ⟨⟨z,rfl,y9,CE⟩,hc,hg⟩;have G:=ae (HD.o.call hc hg);generalize w1.heap.size=gb at G⊢;clear hc hg HD;have O:=ae (G.o.bs (by rw[yD.o,hN]) b9);have c0:=O.o.c0;have c1:=O.o.c1;obtain⟨r0,r1,rf0,rf1⟩:=O.o.r0;rw[<-hN]at O c1;have N5:=ae hN;have hN1:1<=N:=by omega
 have TH:N<=32:=by omega
 have hN16:N<=16:=by omega
 clear MO;have K:=ae hN.symm;clear hN;have MP:z=0∨z=1∨z=2∨z=3∨4<=z:=by omega
 rcases MP with rfl|rfl|rfl|rfl|hz4
 ·have hcv:=G.o.row.cell (k:=0) (by rw[yD.o];omega);have JE:=G.o.row.free 0;have N7:=ae ((G.o.put 0 1).bs (by rw[List.length_set,yD.o,K.o]) (by rw[K.o];exact TH));have u:=N7.o.c0;have J:=N7.o.c1;obtain⟨Z,U,SA,Sz⟩:=N7.o.r0;rw[K.o]at N7 J;have HF:=ae (N7.o.fin b9);clear G K N5;go_wp2_with fail;refine bodyPost_ret (v:=.agg #[.int .i64 (n:Int),.slice (some ⟨I,0,none⟩) N N]) (by simp[results,Tryz.results40,go_sem,HF.o.2.1,HF.o.2.2]) rfl HF.o.1
 ·have PT:Ints (w3.alloc (.cells #[.int .i64 0,.int .i64 6,.int .i64 2,.int .i64 (-1)] 3)) (some ⟨w3.heap.size,0,none⟩) 4 4 [0,6,2,-1]:=Ints.lit w3 [0,6,2,-1] 3 (by decide);have HLI:=ae PT;have hcl3:=G.o.cur.lt;have HDA:=ae (G.o.ext (Ext.alloc w3 (.cells #[.int .i64 0,.int .i64 6,.int .i64 2,.int .i64 (-1)] 3)));clear PT;go_wp2_with fail;refine(eh HDA.o.cur HLI.o b9 (fun b off e=>by simp only[Option.some.injEq,Addr.mk.injEq,and_true]at e;omega)).mono ?_;rintro e w5 ⟨⟨k,hk,rfl⟩,hc,hg⟩;obtain⟨y,hy⟩:=b8 (([0,6,2,-1]:j9)[k]?.getD 0);rw[<-hy];have Dm:=ae ((HDA.o.call hc hg).bs (by rw[yD.o,K.o]) (by rw[K.o];exact TH));have d0:=Dm.o.c0;have d1:=Dm.o.c1;have df:w5.frozen? ⟨gb,0,none⟩=false:=frozen_of_row w5 gb 0 _ _ Dm.o.F7;have Bw:=ae (Dm.o.setx y);have u:=Bw.o.c0;have J:=Bw.o.c1;obtain⟨Z,U,SA,Sz⟩:=Bw.o.r0;rw[K.o]at Bw J d1;have HF:=ae (Bw.o.fin b9);clear hy hc hg G K N5;go_wp2_with fail;refine bodyPost_ret (v:=.agg #[.int .i64 y,.slice (some ⟨I,0,none⟩) N N]) (by simp[results,Tryz.results40,go_sem,HF.o.2.1,HF.o.2.2]) rfl HF.o.1
 ·have HR:=ae (G.o.row.ext (Ext.alloc w3 (.cells #[.int .i64 1] 3)));have Kx:=ae (G.o.cur.ext (Ext.alloc w3 (.cells #[.int .i64 1] 3)));have DB:=G.o.apart.1;have hgs:=G.o.grown.size;have hgbl:=lt_of_block O.o.F7
  go_wp2_with (first
   | (at_builtin;refine bm rfl _ _ rfl w.heap.size (.slice (some ⟨I,0,none⟩) N N) V rfl (O.o.own.ext (Ext.alloc _ _)) _ 1 _ [1] rfl (Ints.Ad _ _ _ _ rfl) (by rw[yD.o];omega) (by simp;omega) ?_
      intro v5 w5 ho hg l7;obtain⟨a5,n5,p5,rfl,A9⟩:=ho.var;have gf:=(hg.block gb (by simp;omega) (fun e=>(O.o.free gb e.symm).1 rfl)).trans (((Ext.alloc w3 _).block _ hgbl).trans O.o.F7);have gf1:w5.frozen? ⟨gb,1,none⟩=false:=frozen_of_row w5 gb 1 _ _ gf;have gc1:w5.cell? ⟨gb,1,none⟩=some (.slice (some ⟨I,0,none⟩) N N):=by rw[cell_of_row w5 gb 1 _ _ _ gf];rfl
      have Bw:=ae ((O.o.ext (Ext.alloc _ _)).sets hg (Kx.o.MY HR.o DB hg) ho l7);have u:=Bw.o.c0;have J:=Bw.o.c1;obtain⟨Z,U,SA,Sz⟩:=Bw.o.r0;have Rq:n5<=17:=by have:=A9.o;have:=yD.o;rw[List.length_append,List.length_singleton]at *;omega
      have HF:=ae (Bw.o.fin Rq)
      clear ho hg l7 gf))
  refine bodyPost_ret (v:=.agg #[.int .i64 (n:Int),.slice a5 n5 p5]) (by simp[results,Tryz.results40,go_sem,HF.o.2.1,HF.o.2.2]) rfl HF.o.1
 ·have Ts:DS w w3.drew cb I gb w.heap.size n V:=G.o.ext (Ext.drew w3);have Ic:DS w (w3.alloc (.cells #[.int .i64 500,.int .i64 501,.int .i64 (-501)] 3)).drew cb I gb w.heap.size n V:=(G.o.ext (Ext.alloc _ _)).ext (Ext.drew _);have PT:Ints (w3.alloc (.cells #[.int .i64 500,.int .i64 501,.int .i64 (-501)] 3)).drew (some ⟨w3.heap.size,0,none⟩) 3 3 [500,501,-501]:=(Ints.lit w3 [500,501,-501] 3 (by decide)).ext (Ext.drew _);have hcl3:=G.o.cur.lt;have Zi:∀(W:World) (V':j9),DS w W cb I gb w.heap.size n V'->W.cell? ⟨gb,1,none⟩=some (.slice (some ⟨I,0,none⟩) N N):=fun W V' h=>by have:=h.c1;rw[K.o]at this;exact this
  obtain⟨q,hq⟩:∃q:Nat,(N:Int)-1=(q:Int):=⟨N-1,by omega⟩;have hqN:q<N:=by omega
  have Ce:IntKind.i64.wrap ((N:Int)-1)=(q:Int):=by rw[hq,IntKind.wrap_i64];omega
  have A7:IntKind.i64.wrap (q:Int)=(q:Int):=by rw[IntKind.wrap_i64];omega
  have DP:=ae Zi;clear Zi;go_wp2_with fail
  go_region_held3 (fun w'=>w'.cell? ⟨gb,1,none⟩=some (.slice (some ⟨I,0,none⟩) N N))
   (first|with_reducible exact DP.o _ _ Ts|with_reducible exact DP.o _ _ Ic|with_reducible exact DP.o _ _ AY|with_reducible exact DP.o _ _ (AY.put _ _))
   (first
     | (go_at_call 88
        refine(eh Ic.cur PT b9 (fun b off e=>by simp only[Option.some.injEq,Addr.mk.injEq,and_true]at e;omega)).mono ?_;rintro e w5 ⟨⟨k,hk,rfl⟩,hc,hg⟩;obtain⟨y,hy⟩:=b8 (([500,501,-501]:j9)[k]?.getD 0);rw[<-hy];clear hy;have AY:=Ic.call hc hg;have hcv:=AY.row.cell (k:=q) (by rw[yD.o];exact hqN);have JE:=AY.row.free q;have HDP:=ae (AY.put q y)
        clear hc hg)
     | fail)
  all_goals
   have Bw:=ae (HDP.o.bs (by rw[List.length_set,yD.o,K.o]) (by rw[K.o];exact TH));have u:=Bw.o.c0;have J:=Bw.o.c1;obtain⟨Z,U,SA,Sz⟩:=Bw.o.r0;rw[K.o]at Bw J;have HF:=ae (Bw.o.fin b9);clear K N5;go_wp2_with fail;refine bodyPost_ret (v:=.agg #[.int .i64 (n:Int),.slice (some ⟨I,0,none⟩) N N]) (by simp[results,Tryz.results40,go_sem,HF.o.2.1,HF.o.2.2]) rfl HF.o.1
 ·have e0:(z == 0)=false:=by simp;omega
  have e1:(z == 1)=false:=by simp;omega
  have e2:(z == 2)=false:=by simp;omega
  have e3:(z == 3)=false:=by simp;omega
  have HF:=ae (O.o.fin b9);go_wp2_with fail;refine bodyPost_ret (v:=.agg #[.int .i64 (n:Int),.slice (some ⟨I,0,none⟩) N N]) (by simp[results,Tryz.results40,go_sem,HF.o.2.1,HF.o.2.2]) rfl HF.o.1
section
variable{P:Program}{ops:Array Oper}{Q:Exit->Act->World->Prop}{md:Region.Mode}{S:World->Prop}{M:List Nat}
def fm(M:List Nat)(listed:Array Bool):Prop:=∀j∈M,listed.getD j true=false
theorem fm.set{M:List Nat}{listed:Array Bool}{i:Nat}(h:fm M listed)(hi:i∉M):fm M (listed.setIfInBounds i true):=fun j hj=>by
 rw[getD_set_ne true (show i≠j from fun e=>hi (by rw[e];exact hj))];exact h j hj
theorem fm.Q3{M:List Nat}{listed:Array Bool}{i:Nat}(h:fm M (listed.setIfInBounds i true))(hi:i∉M):fm M listed:=fun j hj=>by
 have:=h j hj
 rwa [getD_set_ne true (show i≠j from fun e=>hi (by rw[e];exact hj))]at this
def cw(P:Program)(md:Region.Mode)(ops:Array Oper)(Q:Exit->Act->World->Prop)(M:List Nat)(S:World->Prop):Nat->Array Bool->Act->World->Prop
 | 0,listed,a,w=>Region.ready md ops listed=[]/\Q .normal a w
 | f+1,listed,a,w=>(Region.ready md ops listed=[]->Q .normal a w) /\
   ∀i∈Region.ready md ops listed,wpOp P ops Q i (fun a' w'=>(fm M (listed.setIfInBounds i true)->S w')/\cw P md ops Q M S f (listed.setIfInBounds i true) a' w') a w
theorem cw.any:∀{f:Nat} {listed:Array Bool} {a:Act} {w:World},cw P md ops Q M S f listed a w->wpAny P md ops Q f listed a w
 | 0,_,_,_,h=>h
 | f+1,_,_,_,h=>⟨h.1,fun i hi=>wpOp_mono (fun a' w' h'=>cw.any h'.2) (h.2 i hi)⟩
theorem jE{i:Nat}{oi:Oper}{v:Value}{T:World->Prop}(hi:ops[i]?=some oi)(I:∀(j:Nat) (o:Oper) cs b,ops[j]?=some o->o.op≠.select cs b)
 (u:∀c a w,Q (.panic c) (a.put oi.dst v) w->Q (.panic c) a w) (O:i∉M)
 (hT:(∀w,T w)∨((∀w,S w->T w)/\∀j∈M,∀G,ops[j]?=some G->∃e∈G.after,Region.binds md e=true/\e.on=i)) :
 ∀(f:Nat) (listed:Array Bool) (a:Act) (w:World),
   (∀j G,ops[j]?=some G->j≠i->listed.getD j true=false->(∀e∈G.after,Region.binds md e=true->e.on≠i)->oi.apart ops G=true) ->
   i∈Region.ready md ops listed->YieldsIf P ops T oi v a->(fm M listed->S w)->((∀w,T w)∨fm M listed) ->
   cw P md ops Q M S f (listed.setIfInBounds i true) (a.put oi.dst v) w->cw P md ops Q M S (f+1) listed a w:=by
 have now:∀{listed:Array Bool} {w:World},(fm M listed->S w)->((∀w,T w)∨fm M listed)->T w:=fun{listed w} h1 h2=>by
  rcases h2 with h2|h2
  ·exact h2 w
  ·rcases hT with h3|h3
   ·exact h3 w
   ·exact h3.1 w (h1 h2)
 intro f
 induction f with
 | zero =>
   intro listed a w _ hr hy hS hF H;refine⟨fun h=>absurd hr (by rw[h];exact List.not_mem_nil),fun j hj=>?_⟩;by_cases J:j=i
   ·subst J;exact hy.wpOp hi (now hS hF) ⟨fun h=>hS (h.Q3 O),H⟩
   ·exact absurd (ready_mono hj J) (by rw[H.1];exact List.not_mem_nil)
 | succ f ih =>
   intro listed a w GC hr hy hS hF H;refine⟨fun h=>absurd hr (by rw[h];exact List.not_mem_nil),fun j hj=>?_⟩;by_cases J:j=i
   ·subst J;exact hy.wpOp hi (now hS hF) ⟨fun h=>hS (h.Q3 O),H⟩
   ·obtain⟨W,G,R,An⟩:=mem_ready.1 hj;have Z:∀e∈G.after,Region.binds md e=true->e.on≠i:=fun e he hb heq=>by
     have h1:=An e he hb;have h0:=(mem_ready.1 hr).1;rw[heq]at h1
     rcases Nat.lt_or_ge i listed.size with h'|h'
     ·simp[h']at h0 h1;rw[h0]at h1;cases h1
     ·simp[Array.getElem?_eq_none h']at h1
    have step:=wpOp_putIf R (GC j G R J W Z) (fun cs b=>I i oi cs b hi) (fun cs b=>I j G cs b R) u hy (H.2 j (ready_mono hj J));have Tn:∀k ok,ops[k]?=some ok->k≠i->(listed.setIfInBounds j true).getD k true=false ->
     (∀e∈ok.after,Region.binds md e=true->e.on≠i)->oi.apart ops ok=true:=fun k ok hk D8 F2 hno=>by
     refine GC k ok hk D8 ?_ hno;by_cases PX:j=k
     ·rw[<-PX];exact W
     ·rwa [getD_set_ne true PX]at F2
    have hF':(∀w,T w)∨fm M (listed.setIfInBounds j true):=by
     rcases hF with h2|h2
     ·exact .inl h2
     ·rcases hT with h3|h3
      ·exact .inl h3
      ·refine .inr (h2.set fun U=>?_);obtain⟨e,he,hb,ho⟩:=h3.2 j U G R;exact Z e he hb ho
    have e1:(listed.setIfInBounds i true).setIfInBounds j true=(listed.setIfInBounds j true).setIfInBounds i true:=Array.setIfInBounds_comm _ _ (Ne.symm J);rw[e1]at step;exact wpOp_mono (fun a' w' h3=>⟨fun K=>h3.2.1 (K.set O),ih (listed.setIfInBounds j true) a' w' Tn (ready_mono hr (Ne.symm J)) h3.1 (fun K=>h3.2.1 (K.set O)) hF' h3.2.2⟩) step
def KF(md:Region.Mode)(ops:Array Oper)(M:List Nat)(i:Nat):Bool:=M.all fun j=>Region.waitsFor md ops j i
theorem vv{i:Nat}{oi:Oper}{v:Value}{f:Nat}{listed:Array Bool}{a:Act}{w:World}(hi:ops[i]?=some oi)
 (hs:Region.noSelect ops=true) (hf:Region.free md ops listed i=true) (hr:(Region.ready md ops listed).contains i=true) (G:M.contains i=false) (hw:KF md ops M i=true) (CL:M.all (fun j=>!listed.getD j true)=true)
 (I:∀c a w,Q (.panic c) (a.put oi.dst v) w->Q (.panic c) a w) (hy:YieldsIf P ops S oi v a) (hS:S w)
 (h:cw P md ops Q M S f (listed.setIfInBounds i true) (a.put oi.dst v) w):cw P md ops Q M S (f+1) listed a w:=by
 refine jE (T:=S) hi (Region.noSelect_spec hs) I (by intro h';rw[List.contains_eq_mem,decide_eq_false_iff_not]at G;exact G h') (.inr ⟨fun _ h=>h,fun j hj oj U8=>?_⟩) f listed a w (Region.free_spec hi hf) (by simpa using hr) hy (fun _=>hS) (.inr fun j hj=>?_) h
 ·have h1:=List.all_eq_true.1 hw j hj;obtain⟨oj',h2,e,he,hb,ho⟩:=Region.waitsFor_spec h1;rw[U8]at h2;cases h2;exact⟨e,he,hb,ho⟩
 ·have:=List.all_eq_true.1 CL j hj
  simpa using this
theorem vw{i:Nat}{oi:Oper}{v:Value}{f:Nat}{listed:Array Bool}{a:Act}{w:World}(hi:ops[i]?=some oi)
 (hs:Region.noSelect ops=true) (hf:Region.free md ops listed i=true) (hr:(Region.ready md ops listed).contains i=true) (G:M.contains i=false)
 (I:∀c a w,Q (.panic c) (a.put oi.dst v) w->Q (.panic c) a w) (hy:YieldsIf P ops (fun _=>True) oi v a) (hS:S w)
 (h:cw P md ops Q M S f (listed.setIfInBounds i true) (a.put oi.dst v) w):cw P md ops Q M S (f+1) listed a w :=
 jE (T:=fun _=>True) hi (Region.noSelect_spec hs) I (by intro h';rw[List.contains_eq_mem,decide_eq_false_iff_not]at G;exact G h') (.inl fun _=>trivial) f listed a w (Region.free_spec hi hf) (by simpa using hr) hy (fun _=>hS) (.inl fun _=>trivial) h
theorem jD{i:Nat}{oi:Oper}{v:Value}{f:Nat}{listed:Array Bool}{a:Act}{w:World}(hi:ops[i]?=some oi)
 (hs:Region.noSelect ops=true) (hf:Region.free md ops listed i=true) (hr:(Region.ready md ops listed).contains i=true) (G:M.contains i=false)
 (I:∀c a w,Q (.panic c) (a.put oi.dst v) w->Q (.panic c) a w) (hy:YieldsIf P ops (fun _=>True) oi v a) (CL:M.any (fun j=>listed.getD j true)=true)
 (h:cw P md ops Q M S f (listed.setIfInBounds i true) (a.put oi.dst v) w):cw P md ops Q M S (f+1) listed a w :=
 jE (T:=fun _=>True) hi (Region.noSelect_spec hs) I (by intro h';rw[List.contains_eq_mem,decide_eq_false_iff_not]at G;exact G h') (.inl fun _=>trivial) f listed a w (Region.free_spec hi hf) (by simpa using hr) hy (fun hF=>by
  obtain⟨j,hj,h2⟩:=List.any_eq_true.1 CL;rw[hF j hj]at h2
  cases h2) (.inl fun _=>trivial) h
theorem dH{i:Nat}{oi:Oper}{f:Nat}{listed:Array Bool}{a:Act}{w w':World}(hi:ops[i]?=some oi)(hr:Region.ready md ops listed=[i])(G:M.contains i=true)(hl:i<listed.size)
 (hw:Region.wanted oi (yielded ops a.tmps)=true) (hrun:(execOp a.eval oi).run P w=.ok .skip w')
 (h:cw P md ops Q M S f (listed.setIfInBounds i true) (a.put oi.dst undef) w'):cw P md ops Q M S (f+1) listed a w:=by
 refine⟨fun h0=>absurd (hr.symm.trans h0) e7,fun j hj=>?_⟩;rw[hr]at hj;obtain rfl:j=i:=by simpa using hj
 unfold wpOp;simp only[hi,hw,if_true];refine .inl ?_;unfold Oper.wp;rw[hrun];refine⟨fun hF=>absurd (hF j (by simpa using G)) ?_,h⟩;simp[hl]
theorem bh{i:Nat}{oi:Oper}{f:Nat}{listed:Array Bool}{a:Act}{w:World}(hi:ops[i]?=some oi)(hr:Region.ready md ops listed=[i])(hw:Region.wanted oi (yielded ops a.tmps)=true)
 (h:∀G:Act->World->Prop,Shut (∀a w,(fm M (listed.setIfInBounds i true)->S w)->cw P md ops Q M S f (listed.setIfInBounds i true) a w->G a w)->Oper.wp P oi a w G Q):cw P md ops Q M S (f+1) listed a w:=by
 refine⟨fun h0=>absurd (hr.symm.trans h0) e7,fun j hj=>?_⟩;rw[hr]at hj;obtain rfl:j=i:=by simpa using hj
 refine wpOp_step hi (fun G hK=>?_);rw[if_pos hw];exact h G (fun a w h1 h2=>hK a w ⟨h1,h2⟩)
theorem lp(i:Nat){oi:Oper}{v:Value}{f:Nat}{listed G:Array Bool}{a I:Act}{w:World}(h:cw P md ops Q M S f G I w)(hi:ops[i]?=some oi:=by simp only[gA,gB,gC];rfl)(hs:Region.noSelect ops=true:=by kernel_rfl)
 (hf:Region.free md ops listed i=true:=by kernel_rfl) (hr:(Region.ready md ops listed).contains i=true:=by kernel_rfl) (K:M.contains i=false:=by kernel_rfl) (J:∀c a w,Q (.panic c) (a.put oi.dst v) w->Q (.panic c) a w:=by exact fun _ _ _ h=>h)
 (hy:YieldsIf P ops (fun _=>True) oi v a:=by(refine Or.inl ⟨by rfl,?_⟩;intro w G8;(try dsimp only at G8);go_simp;(try with_reducible rfl))) (hS:S w:=by assumption)
 (hl:listed.setIfInBounds i true=G:=by(try simp only[sA,sB,sC]);rfl) (ha:a.put oi.dst v=I:=by(try simp only[Act.put,sA,sB,sC]);rfl):cw P md ops Q M S (f+1) listed a w:=by subst hl ha;exact vw hi hs hf hr K J hy hS h
theorem ll(i:Nat){oi:Oper}{v:Value}{f:Nat}{listed G:Array Bool}{a I:Act}{w:World}(h:cw P md ops Q M S f G I w)(hi:ops[i]?=some oi:=by simp only[gA,gB,gC];rfl)(hs:Region.noSelect ops=true:=by kernel_rfl)
 (hf:Region.free md ops listed i=true:=by kernel_rfl) (hr:(Region.ready md ops listed).contains i=true:=by kernel_rfl) (K:M.contains i=false:=by kernel_rfl) (R:KF md ops M i=true:=by kernel_rfl) (O:M.all (fun j=>!listed.getD j true)=true:=by kernel_rfl) (J:∀c a w,Q (.panic c) (a.put oi.dst v) w->Q (.panic c) a w:=by exact fun _ _ _ h=>h)
 (hy:YieldsIf P ops S oi v a:=by(refine Or.inl ⟨by rfl,?_⟩;intro w G8;(try dsimp only at G8);go_simp;(try with_reducible rfl))) (hS:S w:=by assumption)
 (hl:listed.setIfInBounds i true=G:=by(try simp only[sA,sB,sC]);rfl) (ha:a.put oi.dst v=I:=by(try simp only[Act.put,sA,sB,sC]);rfl):cw P md ops Q M S (f+1) listed a w:=by subst hl ha;exact vv hi hs hf hr K R O J hy hS h
theorem dL{listed:Array Bool}{a:Act}{w:World}(hr:Region.ready md ops listed=[])(h:Q .normal a w):∀f,cw P md ops Q M S f listed a w
 | 0=>⟨hr,h⟩
 | _+1=>⟨fun _=>h,fun i hi=>absurd hi (by rw[hr];exact List.not_mem_nil)⟩
theorem du{id:Nat}{a:Act}{w:World}(hm:P.follows .mixedOrders=true)(h:cw P .any ops Q M S ops.size (Array.replicate ops.size false) a w.drew):(Code.region id ops true).wp P Q a w :=
 wp_region_any hm h.any
end
abbrev Bx:=Nat->Option (Array Value×TypeId)
def Bx.nil:Bx:=fun _=>none
def Bx.upd(f:Bx)(b:Nat)(p:Array Value×TypeId):Bx:=fun k=>if k=b then some p else f k
theorem Bx.same(f:Bx)(b:Nat)(p:Array Value×TypeId):f.upd b p b=some p:=by unfold Bx.upd;rw[if_pos rfl]
theorem Bx.other(f:Bx){b:Nat}(p:Array Value×TypeId)(h:k≠b):f.upd b p k=f k:=by unfold Bx.upd;rw[if_neg h]
structure Aq(w wr:World)(cb:Nat)(f:Bx):Prop where
 cur:Aa wr cb
 grown:w.grownBy wr (some cb)
 box:∀b p,f b=some p->wr.heap[b]?=some (.cells p.1 p.2 (0,0))/\b≠cb/\w.heap.size<=b
 RQ:∀b p,f b=some p->∀(j:Nat) (y:Int),p.1[j]?≠some (Value.int .u8 y)
section
variable{w wr w':World}{cb b:Nat}{f:Bx}{p:Array Value×TypeId}
theorem Aq.lt(h:Aq w wr cb f)(hf:f b=some p):b<wr.heap.size:=lt_of_block (h.box b p hf).1
theorem Aq.call(h:Aq w wr cb f)(hc:Aa w' cb)(hg:wr.grownBy w' (some cb)):Aq w w' cb f :=
 ⟨hc,dY h.grown hg,fun b p hf=>⟨(dW hg (h.lt hf) (h.box b p hf).2.1).trans (h.box b p hf).1,(h.box b p hf).2⟩,h.RQ⟩
theorem Aq.ext(h:Aq w wr cb f)(hx:Ext wr w'):Aq w w' cb f:=h.call (h.cur.ext hx) (dX _ hx)
theorem Aq.cell(h:Aq w wr cb f)(hf:f b=some p)(i:Nat):wr.cell? ⟨b,i,none⟩=p.1[i]?:=cell_of_row wr b i _ _ _ (h.box b p hf).1
theorem Aq.c0{x0 x1:Value}{t:TypeId}(h:Aq w wr cb f)(hf:f b=some (#[x0,x1],t)):wr.cell? ⟨b,0,none⟩=some x0:=h.cell hf 0
theorem Aq.c1{x0 x1:Value}{t:TypeId}(h:Aq w wr cb f)(hf:f b=some (#[x0,x1],t)):wr.cell? ⟨b,1,none⟩=some x1:=h.cell hf 1
theorem Aq.free(h:Aq w wr cb f)(hf:f b=some p)(i:Nat):wr.frozen? ⟨b,i,none⟩=false:=frozen_of_row wr b i _ _ (h.box b p hf).1
theorem Aq.start(hc:Aa wr cb)(hg:w.grownBy wr (some cb)):Aq w wr cb Bx.nil:=⟨hc,hg,fun _ _ h=>(by cases h),fun _ _ h=>(by cases h)⟩
theorem Aq.add(h:Aq w wr cb f)(b:Nat)(arr:Array Value)(t:TypeId)(hb:wr.heap[b]?=some (.cells arr t (0,0)))(hne:b≠cb)(hw:w.heap.size<=b)(hd:∀(j:Nat) (y:Int),arr[j]?≠some (Value.int .u8 y)):Aq w wr cb (f.upd b (arr,t)):=by
 refine⟨h.cur,h.grown,fun k p hf=>?_,fun k p hf=>?_⟩
 all_goals
  by_cases e:k=b
  ·subst e;rw[Bx.same]at hf;cases hf
   first|exact⟨hb,hne,hw⟩|exact hd
  ·rw[Bx.other _ _ e]at hf
   first|exact h.box k p hf|exact h.RQ k p hf
theorem Aq.new(h:Aq w wr cb f)(arr:Array Value)(t:TypeId)(hd:∀(j:Nat) (y:Int),arr[j]?≠some (Value.int .u8 y)):Aq w (wr.alloc (.cells arr t)) cb (f.upd wr.heap.size (arr,t)) :=
 (h.ext (Ext.alloc wr _)).add _ _ _ (heap_alloc_new _ _) (j4 h.cur.lt) h.grown.size hd
theorem Aq.put(h:Aq w wr cb f)(hf:f b=some p)(i:Nat)(v:Value)(hv:∀y:Int,v≠Value.int .u8 y):Aq w (wr.setCell ⟨b,i,none⟩ v) cb (f.upd b (p.1.setIfInBounds i v,p.2)):=by
 have hb:=h.box b p hf;have ho:∀j,j≠b->(wr.setCell ⟨b,i,none⟩ v).heap[j]?=wr.heap[j]?:=fun j hj=>heap_setCell_other _ _ _ _ hj
 have hg:=h.grown;refine⟨h.cur.put' hb.2.1 (fun j y e=>?_) i v,⟨hg.os,hg.tape,hg.output,by simpa using hg.size,fun j hj hn=>(ho j b9).trans (hg.block j hj hn)⟩,fun k q hk=>?_,fun k q hk=>?_⟩
 ·rw[h.cell hf]at e;exact h.RQ b p hf j y e
 ·by_cases e:k=b
  ·subst e;rw[Bx.same]at hk;cases hk;exact⟨heap_setCell_same wr k i _ _ v hb.1,hb.2⟩
  ·rw[Bx.other _ _ e]at hk;have:=h.box k q hk;exact⟨(ho k e).trans this.1,this.2⟩
 ·by_cases e:k=b
  ·subst e;rw[Bx.same]at hk;cases hk;intro j y ej;simp only[Array.getElem?_setIfInBounds]at ej
   split at ej
   ·split at ej
    ·exact hv y (Option.some.inj ej)
    ·cases ej
   ·exact h.RQ k p hf j y ej
  ·rw[Bx.other _ _ e]at hk;exact h.RQ k q hk
theorem Aq.C7{x0 x1:Value}{t:TypeId}(h:Aq w wr cb f)(hf:f b=some (#[x0,x1],t))(v0 v1:Value)(h0:∀y:Int,v0≠Value.int .u8 y)(h1:∀y:Int,v1≠Value.int .u8 y):
 Aq w ((wr.setCell ⟨b,0,none⟩ v0).setCell ⟨b,1,none⟩ v1) cb (f.upd b (#[v0,v1],t)):=by
 have h2:=(h.put hf 0 v0 h0).put (Bx.same _ _ _) 1 v1 h1;refine⟨h2.cur,h2.grown,fun k p hk=>h2.box k p ?_,fun k p hk=>h2.RQ k p ?_⟩
 all_goals
  by_cases e:k=b
  ·subst e;rw[Bx.same]at hk⊢;rw[<-hk];rfl
  ·rw[Bx.other _ _ e]at hk;rw[Bx.other _ _ e,Bx.other _ _ e];exact hk
theorem o8.calls{base:Nat}{v:Value}{V:j9}(ho:o8 wr base v V)(hg:wr.grownBy w' (some cb))(hb:cb<base):o8 w' base v V :=
 ho.keep fun k hk=>dW hg (ho.lt k hk).2 (j4 ((ho.lt k hk).1))
theorem o8.C7{base:Nat}{v:Value}{V:j9}(ho:o8 wr base v V)(hb:b<base)(v0 v1:Value):o8 ((wr.setCell ⟨b,0,none⟩ v0).setCell ⟨b,1,none⟩ v1) base v V :=
 ((o8.on ho).set hb v0 |>.set (a:=⟨b,1,none⟩) hb v1).here
theorem Aa.puts{k:Nat}{u:Value}(h:Aa wr cb)(hne:b≠cb)(hb:wr.cell? ⟨b,k,none⟩=some u)(hu:∀y:Int,u≠Value.int .u8 y)(v:Value):Aa (wr.setCell ⟨b,k,none⟩ v) cb:=by
 obtain⟨ba,bn,bc,i,x,h1,h2,h3,h4,h5⟩:=h;refine⟨ba,bn,bc,i,x,(heap_setCell_other _ _ _ _ (Ne.symm hne)).trans h1,⟨h2.o3,h2.l9,fun j hj=>?_⟩,h3,h4,h5⟩;obtain⟨G,off,e,hc⟩:=h2.cell j hj;refine⟨G,off,e,fun j hj=>?_⟩;obtain⟨y,hy,xM⟩:=hc j hj;refine⟨y,(World.cell?_setCell_other _ _ _ _ fun e2=>?_).trans hy,xM⟩;rw[e2,hy]at hb;exact hu y (Option.some.inj hb).symm
theorem Aq.VQ{k:Nat}{u:Value}(h:Aq w wr cb f)(hne:b≠cb)(hw:w.heap.size<=b)(hf:f b=none)(hb:wr.cell? ⟨b,k,none⟩=some u)(hu:∀y:Int,u≠Value.int .u8 y)(v:Value):Aq w (wr.setCell ⟨b,k,none⟩ v) cb f:=by
 have ho:∀j,j≠b->(wr.setCell ⟨b,k,none⟩ v).heap[j]?=wr.heap[j]?:=fun j hj=>heap_setCell_other _ _ _ _ hj
 have hg:=h.grown;refine⟨h.cur.puts hne hb hu v,⟨hg.os,hg.tape,hg.output,by simpa using hg.size,fun j hj hn=>(ho j b9).trans (hg.block j hj hn)⟩,fun j q hq=>?_,h.RQ⟩;have:=h.box j q hq;exact⟨(ho j fun e=>by subst e;rw[hf]at hq;cases hq).trans this.1,this.2⟩
theorem Aa.above(h:Aa wr cb)(hk:∀k,k<=cb->w'.heap[k]?=wr.heap[k]?):Aa w' cb:=by
 obtain⟨ba,bn,bc,i,x,h1,h2,h3,h4,h5⟩:=h;refine⟨ba,bn,bc,i,x,(hk cb (Nat.le_refl _)).trans h1,⟨h2.o3,h2.l9,fun j hj=>?_⟩,h3,h4,h5⟩;obtain⟨G,off,e,hc⟩:=h2.cell j hj;refine⟨G,off,e,fun j hj=>?_⟩;obtain⟨y,hy,xM⟩:=hc j hj;exact⟨y,(fL (hk G (Nat.le_of_lt (h5 G off e b9))) _).trans hy,xM⟩
theorem Aq.grew{r:Option Nat}(h:Aq w wr cb f)(hg:wr.grownBy w' r)(hr:∀k,r=some k->cb<k/\w.heap.size<=k/\f k=none):Aq w w' cb f:=by
 have hl:=h.cur.lt;refine⟨h.cur.above fun k hk=>hg.block k b9 (fun e=>by have:=(hr k e.symm).1;omega),?_,fun b p hb=>?_,h.RQ⟩
 ·have h0:=h.grown;exact⟨hg.os.trans h0.os,hg.tape.trans h0.tape,hg.output.trans h0.output,Nat.le_trans h0.size hg.size,fun j hj hn=>(hg.block j (j4 h0.size) (fun e=>by have:=(hr j e.symm).2.1;omega)).trans (h0.block j hj hn)⟩
 ·have:=h.box b p hb;exact⟨(hg.block b (h.lt hb) (fun e=>by have:=(hr b e.symm).2.2;rw[this]at hb;cases hb)).trans this.1,this.2⟩
theorem Aq.all(h:Aq w wr cb f)(Kc:w.heap.size<=cb):Ext w wr:=al (Ext.refl w) h.grown (fun k hk=>by have:=Option.some.inj hk;omega)
end
theorem iD(x:Int)(s:Value)(hs:∀y:Int,s≠Value.int .u8 y):∀(j:Nat) (y:Int),(#[Value.int .i64 x,s]:Array Value)[j]?≠some (Value.int .u8 y):=fun j y e=>by
 match j with
 | 0=>simp at e
 | 1=>exact hs y (by simpa using e)
 | j+2=>simp at e
theorem hO(a:j8)(n c:Nat):∀y:Int,Value.slice a n c≠Value.int .u8 y:=fun y e=>by cases e
theorem eY(x:Int):∀y:Int,Value.int .i64 x≠Value.int .u8 y:=fun y e=>by cases e
def gI(a b:Int):Int:=(Int.gcd a b:Int)
theorem sT(a b:Int):gI b (a.tmod b)=gI a b:=by
 unfold gI Int.gcd;rw[Int.natAbs_tmod,Nat.gcd_comm b.natAbs,<-Nat.gcd_rec,Nat.gcd_comm]
theorem nQ(a:Int):gI a 0=(a.natAbs:Int):=by simp[gI]
theorem im(a b:Int):gI (-a) b=gI a b:=by simp[gI,Int.gcd]
theorem kJ(a b:Int):gI a (-b)=gI a b:=by simp[gI,Int.gcd]
theorem kl(a:Int){b:Int}(h:b≠0):1<=gI a b:=by
 unfold gI;have:0<Int.gcd a b:=Int.gcd_pos_of_ne_zero_right a h;omega
theorem oK(a b:Int):0<=gI a b:=by unfold gI;omega
theorem I8(a:Int){b:Int}(h:b≠0):gI a b<=b.natAbs:=by
 unfold gI Int.gcd
 exact_mod_cast Nat.gcd_le_right _ b9
theorem nO(a b:Int):gI a b∣a:=Int.gcd_dvd_left ..
theorem kI(a b:Int):gI a b∣b:=Int.gcd_dvd_right ..
def o5(p:k5):Bool:=wJ p.2 1 1000000000&&(wJ p.1 (-1000000000) 1000000000&&decide (gI p.1 p.2=1))
theorem aQ{p:k5}(h:o5 p=true):1<=p.2/\p.2<=1000000000/\-1000000000<=p.1/\p.1<=1000000000:=by
 simp only[o5,wJ,Bool.and_eq_true,decide_eq_true_eq]at h;omega
theorem gO(x y:Int):o5 (-x,y)=o5 (x,y):=by
 have h1:wJ (-x) (-1000000000) 1000000000=wJ x (-1000000000) 1000000000:=by
  unfold wJ;have e1:decide (-1000000000<=-x)=decide (x<=1000000000):=by by_cases h:x<=1000000000<;>simp[h]<;>omega
  have e2:decide (-x<=1000000000)=decide (-1000000000<=x):=by by_cases h:-1000000000<=x<;>simp[h]<;>omega
  rw[e1,e2,Bool.and_comm]
 simp only[o5,im,h1]
def zB(p:k5):(Int×Int)×Bool:=if o5 p=true then(p,true) else((0,0),false)
def aL(n d:Int):(Int×Int)×Bool :=
 if d=0∨wJ n (-1000000000000000000) 1000000000000000000=false∨wJ d (-1000000000000000000) 1000000000000000000=false then((0,0),false)
 else if d<0 then zB (n.tdiv (-gI n d),d.tdiv (-gI n d)) else zB (n.tdiv (gI n d),d.tdiv (gI n d))
theorem qg{p:k5}(h:(zB p).2=true):o5 (zB p).1=true:=by
 unfold zB at h⊢
 split at h
 ·next h1=>rw[if_pos h1];exact h1
 ·simp at h
theorem hJ(h:(aL n d).2=true):o5 (aL n d).1=true:=by
 unfold aL at h⊢
 split at h
 ·simp at h
 ·next h1 =>
  rw[if_neg h1]
  split at h
  ·next h2=>rw[if_pos h2];exact qg h
  ·next h2=>rw[if_neg h2];exact qg h
theorem Lk(h:(aL n d).2=false):(aL n d).1=(0,0):=by
 unfold aL zB at h⊢
 split at h
 ·next h1=>rw[if_pos h1]
 ·next h1 =>
  rw[if_neg h1]
  split at h
  ·next h2 =>
   rw[if_pos h2]
   split at h
   ·simp at h
   ·next h3=>rw[if_neg h3]
  ·next h2 =>
   rw[if_neg h2]
   split at h
   ·simp at h
   ·next h3=>rw[if_neg h3]
theorem kj(n d:Int)(hd:0<d):gI (n.tdiv (gI n d)) (d.tdiv (gI n d))=1:=by
 have hg:=kl n (show d≠0 by omega);obtain⟨k,hk⟩:=nO n d;obtain⟨m,hm⟩:=kI n d;have h1:n.tdiv (gI n d)=k:=by
    conv=>lhs;arg 1;rw[hk]
    exact Int.mul_tdiv_cancel_left _ b9
 have h2:d.tdiv (gI n d)=m:=by
    conv=>lhs;arg 1;rw[hm]
    exact Int.mul_tdiv_cancel_left _ b9
 rw[h1,h2];have h3:gI (gI n d*k) (gI n d*m)=gI n d:=by rw[<-hk,<-hm]
 have h4:gI (gI n d*k) (gI n d*m)=gI n d*gI k m:=by
  show((Int.gcd _ _:Nat):Int)=_;rw[Int.gcd_mul_left];have:((gI n d).natAbs:Int)=gI n d:=by omega
  rw[Int.natCast_mul,this]
  rfl
 rw[h3]at h4;have h5:gI n d*1=gI n d*gI k m:=by omega
 have:=Int.eq_of_mul_eq_mul_left b9 h5;omega
theorem mi(n g:Int)(hg:1<=g):(n.tdiv g).natAbs<=n.natAbs:=by
 rw[Int.natAbs_tdiv];exact Nat.div_le_self _ _
theorem Lj(hd:1<=d)(hd':d<=1000000000)(h:-1000000000<=n)(h':n<=1000000000):(aL n d).2=true:=by
 have hg:=kl n (show d≠0 by omega);have D':=I8 n (show d≠0 by omega);unfold aL;rw[if_neg (by simp[wJ];omega),if_neg b9];unfold zB;have h1:=mi n (gI n d) hg;have h2:=mi d (gI n d) hg;have h3:1<=d.tdiv (gI n d):=by
  obtain⟨m,hm⟩:=kI n d;have h2:d.tdiv (gI n d)=m:=by
     conv=>lhs;arg 1;rw[hm]
     exact Int.mul_tdiv_cancel_left _ b9
  rw[h2]
  rcases Int.lt_or_le 0 m with h|h
  ·omega
  ·have:gI n d*m<=0:=Int.mul_nonpos_of_nonneg_of_nonpos b9 h;omega
 rw[if_pos];simp only[o5,wJ,kj n d b9,Bool.and_eq_true,decide_eq_true_eq,and_true];omega
def xP(a b:k5):(Int×Int)×Bool:=if(o5 a&&o5 b)=true then aL (a.1*b.2+b.1*a.2) (a.2*b.2) else((0,0),false)
def xy(a b:k5):(Int×Int)×Bool:=if(o5 a&&o5 b)=true then aL (a.1*b.2-b.1*a.2) (a.2*b.2) else((0,0),false)
def mulR(a b:k5):(Int×Int)×Bool:=if(o5 a&&o5 b)=true then aL (a.1*b.1) (a.2*b.2) else((0,0),false)
def yH(a b:k5):(Int×Int)×Bool:=if(o5 a&&o5 b)=true then aL (a.1*b.2) (a.2*b.1) else((0,0),false)
def wU(a b:k5):Int:=if(o5 a&&o5 b)=true then(if a.1*b.2<b.1*a.2 then -1 else if b.1*a.2<a.1*b.2 then 1 else 0) else 0
theorem mh(a b:k5):xP a (-b.1,b.2)=xy a b:=by
 unfold xP xy;rw[gO,Int.neg_mul,<-Int.sub_eq_add_neg]
theorem gY{y:Int}(h1:-1000000000<=x)(h2:x<=1000000000)(h3:-1000000000<=y)(h4:y<=1000000000):-1000000000000000000<=x*y/\x*y<=1000000000000000000:=by
 have hx:x.natAbs<=1000000000:=by omega
 have hy:y.natAbs<=1000000000:=by omega
 have h:(x*y).natAbs<=1000000000*1000000000:=by
  rw[Int.natAbs_mul];exact Nat.mul_le_mul hx hy
 omega
end Go.Proofs.YtalmoolkhcgmmaaGreat
