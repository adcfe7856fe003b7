import Derived.Test.YthjjfkeacobikaaGreatLeAllG3
import Derived.Test.YthjjfkeacobikaaGreatLeAllG0
import Derived.StillTail
import Derived.Deep.RegionHeld3
set_option linter.unusedVariables false
set_option linter.unusedSimpArgs false
namespace Go.Proofs.YthjjfkeacobikaaGreat
set_option maxRecDepth 100000
open Go.RowKit
def Bent (w:World) (cb:Nat) (e:Ending) (w':World):Prop :=
 (∃ (x:Int) (a:Option Addr) (m cap:Nat) (V:List Int),e=.returned (.agg #[.int .i64 x,.slice a m cap])/\OwnI w' w.heap.size (.slice a m cap) V/\m<=17)/\Cur w' cb/\w.grownBy w' (some cb)
structure BS (w wr:World) (cb gb rb:Nat) (x:Int) (a:Option Addr) (m cap:Nat) (V:List Int):Prop where
 cur:Cur wr cb
 gbk:wr.heap[gb]?=some (.cells #[.int .i64 x,.slice a m cap] 29 (0,0))
 rbk:wr.heap[rb]?=some (.cells #[.int .i64 0,.slice none 0 0] 29 (0,0))
 grown:w.grownBy wr (some cb)
 own:OwnI wr w.heap.size (.slice a m cap) V
 apart:gb ≠ cb/\rb ≠ cb/\rb ≠ gb/\w.heap.size<=gb/\w.heap.size<=rb
 free:∀ k,(Value.slice a m cap).ownBlock=some k->k ≠ gb/\k ≠ rb
theorem DS.bs {w wr:World} {cb vb gb rb n:Nat} {V:List Int} (h:DS w wr cb vb gb rb n V) (hV:V.length=cN n) (hn:cN n<=32):BS w wr cb gb rb (n:Int) (some ⟨vb,0,none⟩) (cN n) (cN n) V:=by
 obtain ⟨h1,h2,h3,h4,h5,h6,h7,h8,h9⟩:=h.apart
 exact ⟨h.cur,h.gbk,h.rbk,h.grown,Row.own h.row h7 hV (by omega),⟨h2,h3,h6,h8,h9⟩,fun k hk=>by
  simp only [Value.ownBlock,Option.some.injEq] at hk
  omega⟩
theorem BS.c0 {w wr:World} {cb gb rb:Nat} {x:Int} {a:Option Addr} {m cap:Nat} {V:List Int} (h:BS w wr cb gb rb x a m cap V):wr.cell? ⟨gb,0,none⟩=some (.int .i64 x):=by rw [cell_of_row wr gb 0 _ _ _ h.gbk];rfl
theorem BS.c1 {w wr:World} {cb gb rb:Nat} {x:Int} {a:Option Addr} {m cap:Nat} {V:List Int} (h:BS w wr cb gb rb x a m cap V):wr.cell? ⟨gb,1,none⟩=some (.slice a m cap):=by rw [cell_of_row wr gb 1 _ _ _ h.gbk];rfl
theorem BS.r0 {w wr:World} {cb gb rb:Nat} {x:Int} {a:Option Addr} {m cap:Nat} {V:List Int} (h:BS w wr cb gb rb x a m cap V):wr.cell? ⟨rb,0,none⟩=some (.int .i64 0)/\wr.cell? ⟨rb,1,none⟩=some (.slice none 0 0)/\wr.frozen? ⟨rb,0,none⟩=false/\wr.frozen? ⟨rb,1,none⟩=false :=
 ⟨by rw [cell_of_row wr rb 0 _ _ _ h.rbk];rfl,by rw [cell_of_row wr rb 1 _ _ _ h.rbk];rfl,frozen_of_row wr rb 0 _ _ h.rbk,frozen_of_row wr rb 1 _ _ h.rbk⟩
theorem BS.ext {w wr w':World} {cb gb rb:Nat} {x:Int} {a:Option Addr} {m cap:Nat} {V:List Int} (h:BS w wr cb gb rb x a m cap V) (hx:Ext wr w'):BS w w' cb gb rb x a m cap V :=
 ⟨h.cur.ext hx,(hx.block _ (lt_of_block h.gbk)).trans h.gbk,(hx.block _ (lt_of_block h.rbk)).trans h.rbk,dK h.grown (dJ (some cb) hx),h.own.ext hx,h.apart,h.free⟩
theorem BS.fin {w wr:World} {cb gb rb:Nat} {x:Int} {a:Option Addr} {m cap:Nat} {V:List Int} (h:BS w wr cb gb rb x a m cap V) (hm:m<=17) :
 Bent w cb (.returned (.agg #[.int .i64 x,.slice a m cap])) ((wr.setCell ⟨rb,0,none⟩ (.int .i64 x)).setCell ⟨rb,1,none⟩ (.slice a m cap)) /\
 ((wr.setCell ⟨rb,0,none⟩ (.int .i64 x)).setCell ⟨rb,1,none⟩ (.slice a m cap)).cell? ⟨rb,0,none⟩=some (.int .i64 x) /\
 ((wr.setCell ⟨rb,0,none⟩ (.int .i64 x)).setCell ⟨rb,1,none⟩ (.slice a m cap)).cell? ⟨rb,1,none⟩=some (.slice a m cap):=by
 obtain ⟨h1,h2,h3,h4⟩:=lD (w:=w) h.cur h.rbk (by intro y;simp) h.apart.2.1 h.grown h.apart.2.2.2.2 x (.slice a m cap) (by intro y;simp);exact ⟨⟨⟨x,a,m,cap,V,rfl,h.own.keep fun k hk=>h3 k (h.free k hk).2,hm⟩,h1,h2⟩,by rw [cell_of_row _ rb 0 _ _ _ h4];rfl,by rw [cell_of_row _ rb 1 _ _ _ h4];rfl⟩
theorem BS.setx {w wr:World} {cb gb rb:Nat} {x:Int} {a:Option Addr} {m cap:Nat} {V:List Int} (h:BS w wr cb gb rb x a m cap V) (y:Int):BS w (wr.setCell ⟨gb,0,none⟩ (.int .i64 y)) cb gb rb y a m cap V:=by
 obtain ⟨h1,h2,h3,h4,h5⟩:=h.apart;have ho:∀ j,j ≠ gb->(wr.setCell ⟨gb,0,none⟩ (.int .i64 y)).heap[j]?=wr.heap[j]?:=fun j hj=>heap_setCell_other _ _ _ _ hj
 have hg:=h.grown;refine ⟨h.cur.put' h1 (fun j z e=>?_) 0 _,?_,(ho _ h3).trans h.rbk,⟨hg.os,hg.tape,hg.output,by simpa using hg.size,fun j hj hn=>(ho j (by omega)).trans (hg.block j hj hn)⟩,h.own.keep fun k hk=>ho k (h.free k hk).1,h.apart,h.free⟩
 ·rw [cell_of_row wr gb j _ _ _ h.gbk] at e
  match j with
  | 0=>simp at e
  | 1=>simp at e
  | j+2=>simp at e
 ·have:=heap_setCell_same wr gb 0 _ _ (.int .i64 y) h.gbk;exact this
theorem BS.sets {w wr:World} {cb gb rb:Nat} {x:Int} {a:Option Addr} {m cap:Nat} {V:List Int} (h:BS w wr cb gb rb x a m cap V) {w':World} (hg:wr.grownBy w' (Value.slice a m cap).ownBlock) (hc:Cur w' cb) {a':Option Addr} {m' cap':Nat} {V':List Int} (ho':OwnI w' w.heap.size (.slice a' m' cap') V') (hn:Near wr (.slice a m cap) (.slice a' m' cap')) :
 BS w (w'.setCell ⟨gb,1,none⟩ (.slice a' m' cap')) cb gb rb x a' m' cap' V':=by
 obtain ⟨h1,h2,h3,h4,h5⟩:=h.apart;have hgl:=lt_of_block h.gbk;have hrl:=lt_of_block h.rbk;have hgb:w'.heap[gb]?=some (.cells #[.int .i64 x,.slice a m cap] 29 (0,0)):=(hg.block _ hgl (fun e=>(h.free gb e.symm).1 rfl)).trans h.gbk;have hrb:w'.heap[rb]?=some (.cells #[.int .i64 0,.slice none 0 0] 29 (0,0)):=(hg.block _ hrl (fun e=>(h.free rb e.symm).2 rfl)).trans h.rbk;have ho:∀ j,j ≠ gb->(w'.setCell ⟨gb,1,none⟩ (.slice a' m' cap')).heap[j]?=w'.heap[j]?:=fun j hj=>heap_setCell_other _ _ _ _ hj
 have hfr:∀ k,(Value.slice a' m' cap').ownBlock=some k->k ≠ gb/\k ≠ rb:=fun k hk=>by
  rcases hn k hk with e|e
  ·exact h.free k e
  ·omega
 have hw:w.grownBy w' (some cb):=by
  have hgr:=h.grown;refine ⟨hg.os.trans hgr.os,hg.tape.trans hgr.tape,hg.output.trans hgr.output,Nat.le_trans hgr.size hg.size,fun j hj hne=>?_⟩;exact (hg.block j (by have:=hgr.size;omega) (fun e=>by have:=(h.own.lt j e.symm).1;omega)).trans (hgr.block j hj hne)
 refine ⟨hc.put' h1 (fun j z e=>?_) 1 _,?_,(ho _ h3).trans hrb,⟨hw.os,hw.tape,hw.output,by simpa using hw.size,fun j hj hn=>(ho j (by omega)).trans (hw.block j hj hn)⟩,ho'.keep fun k hk=>ho k (hfr k hk).1,h.apart,hfr⟩
 ·rw [cell_of_row w' gb j _ _ _ hgb] at e
  match j with
  | 0=>simp at e
  | 1=>simp at e
  | j+2=>simp at e
 ·have:=heap_setCell_same w' gb 1 _ _ (.slice a' m' cap') hgb;exact this
theorem Cur.grownRow {w w':World} {cb vb:Nat} {t:TypeId} {V:List Int} (h:Cur w cb) (hr:Row w vb t V) (hne:vb ≠ cb) (hg:w.grownBy w' (some vb)):Cur w' cb:=by
 have hl:=h.lt;obtain ⟨ba,bn,bc,i,x,h1,h2,h3,h4,h5⟩:=h;refine ⟨ba,bn,bc,i,x,(hg.block _ hl (fun e=>hne (Option.some.inj e).symm)).trans h1,⟨h2.hcap,h2.hmax,fun j hj=>?_⟩,h3,h4,h5⟩;obtain ⟨b,off,e,hc⟩:=h2.cell j hj;refine ⟨b,off,e,fun j hj=>?_⟩;obtain ⟨y,hy,hy1⟩:=hc j hj;refine ⟨y,(fm (hg.block _ (World.block_lt_of_cell? _ _ hy) ?_) _).trans hy,hy1⟩;intro e2;have e3:=Option.some.inj e2;subst e3;rw [cell_of_row w b _ _ _ _ hr] at hy;simp [aZ,List.getElem?_map] at hy
set_option maxHeartbeats 16000000 in
theorem s_l8Bent {w:World} {cb:Nat} (h:Cur w cb) :
 Calls Tryz.prog 129 #[.pointer (some ⟨cb,0,none⟩)] w (Bent w cb):=by
 have hcl:=h.lt;have HX:=ae (Ext.alloc w (.cells #[.int .i64 0,.slice none 0 0] 29));have HC:=ae (h.ext HX.out);have HB:=ae (po HC.out 4 (by omega) (by omega));have hrb:(w.alloc (.cells #[.int .i64 0,.slice none 0 0] 29)).heap[w.heap.size]?=some (.cells #[.int .i64 0,.slice none 0 0] 29 (0,0)):=heap_alloc_new _ _;have HRB:=ae hrb;clear h hrb;go_enter Tryz.func129,Tryz.ntmps129
 go_wp2_with fail;refine HB.out.mono ?_;rintro e w1 ⟨⟨n,vb,V,rfl,hD⟩,hc,hg⟩;have hn1:=hD.lo;have hn4:=hD.hi;have hcn:=cX n (by omega);have hcn4:cN n<=16:=by
  have:∀ k:Fin 5,cN k.val<=16:=by decide
  exact this ⟨n,by omega⟩
 obtain ⟨N,hN⟩:∃ N,N=cN n:=⟨_,rfl⟩
 have HD:=ae (show DS w (w1.alloc (.cells #[.int .i64 (n:Int),.slice (some ⟨vb,0,none⟩) (cN n) (cN n)] 29)) cb vb w1.heap.size w.heap.size n V by
  have hg1:w.grownBy w1 (some cb):=dK (dJ (some cb) HX.out) hg;have hv:=hD.row.lt;have hvn:=hD.new;rw [World.size_alloc] at hvn;have hne:=hD.ne;have hx:=Ext.alloc w1 (.cells #[.int .i64 (n:Int),.slice (some ⟨vb,0,none⟩) (cN n) (cN n)] 29);have hrb1:=(dI hg (by simp) (by omega)).trans HRB.out
  exact ⟨hD.row.ext hx,hc.ext hx,heap_alloc_new _ _,(hx.block _ (lt_of_block hrb1)).trans hrb1,dK hg1 (dJ (some cb) hx),by omega⟩)
 have HVL:=ae hD.len;clear hD hc hg;rw [<-hN] at HVL;go_wp2_with fail;refine (en HD.out.cur 12 (by omega)).mono ?_;rintro e w3 ⟨⟨z,rfl,hz0,hz1⟩,hc,hg⟩;have HD3:=ae (HD.out.call hc hg);generalize w1.heap.size=gb at HD3 ⊢;clear hc hg HD;have HBS:=ae (HD3.out.bs (by rw [HVL.out,hN]) (by omega));have c0:=HBS.out.c0;have c1:=HBS.out.c1;obtain ⟨r0,r1,rf0,rf1⟩:=HBS.out.r0;rw [<-hN] at HBS c1;have HCN:=ae hN;have hN1:1<=N:=by omega
 have hN32:N<=32:=by omega
 have hN16:N<=16:=by omega
 clear hcn4;have HNC:=ae hN.symm;clear hN;have hcase:z=0 ∨ z=1 ∨ z=2 ∨ z=3 ∨ 4<=z:=by omega
 rcases hcase with rfl|rfl|rfl|rfl|hz4
 ·have hcv:=HD3.out.row.cell (k:=0) (by rw [HVL.out];omega);have hfv:=HD3.out.row.free 0;have HBS4:=ae ((HD3.out.put 0 1).bs (by rw [List.length_set,HVL.out,HNC.out]) (by rw [HNC.out];exact hN32));have c0':=HBS4.out.c0;have c1':=HBS4.out.c1;obtain ⟨r0',r1',rf0',rf1'⟩:=HBS4.out.r0;rw [HNC.out] at HBS4 c1';have HF:=ae (HBS4.out.fin (by omega));clear HD3 HNC HCN;go_wp2_with fail;refine bodyPost_ret (v:=.agg #[.int .i64 (n:Int),.slice (some ⟨vb,0,none⟩) N N]) (by simp [results,Tryz.results129,go_sem,HF.out.2.1,HF.out.2.2]) rfl HF.out.1
 ·have hli:Ints (w3.alloc (.cells #[.int .i64 0,.int .i64 6,.int .i64 2,.int .i64 (-1)] 3)) (some ⟨w3.heap.size,0,none⟩) 4 4 [0,6,2,-1]:=Ints.lit w3 [0,6,2,-1] 3 (by decide);have HLI:=ae hli;have hcl3:=HD3.out.cur.lt;have HDA:=ae (HD3.out.ext (Ext.alloc w3 (.cells #[.int .i64 0,.int .i64 6,.int .i64 2,.int .i64 (-1)] 3)));clear hli;go_wp2_with fail;refine (dP HDA.out.cur HLI.out (by omega) (fun b off e=>by simp only [Option.some.injEq,Addr.mk.injEq,and_true] at e;omega)).mono ?_;rintro e w5 ⟨⟨k,hk,rfl⟩,hc,hg⟩;obtain ⟨y,hy⟩:∃ y,y=([0,6,2,-1]:List Int)[k]?.getD 0:=⟨_,rfl⟩;rw [<-hy];have HB5:=ae ((HDA.out.call hc hg).bs (by rw [HVL.out,HNC.out]) (by rw [HNC.out];exact hN32));have d0:=HB5.out.c0;have d1:=HB5.out.c1;have df:w5.frozen? ⟨gb,0,none⟩=false:=frozen_of_row w5 gb 0 _ _ HB5.out.gbk;have HB6:=ae (HB5.out.setx y);have c0':=HB6.out.c0;have c1':=HB6.out.c1;obtain ⟨r0',r1',rf0',rf1'⟩:=HB6.out.r0;rw [HNC.out] at HB6 c1' d1;have HF:=ae (HB6.out.fin (by omega));clear hy hc hg HD3 HNC HCN;go_wp2_with fail;refine bodyPost_ret (v:=.agg #[.int .i64 y,.slice (some ⟨vb,0,none⟩) N N]) (by simp [results,Tryz.results129,go_sem,HF.out.2.1,HF.out.2.2]) rfl HF.out.1
 ·have HR:=ae (HD3.out.row.ext (Ext.alloc w3 (.cells #[.int .i64 1] 3)));have HCR:=ae (HD3.out.cur.ext (Ext.alloc w3 (.cells #[.int .i64 1] 3)));have hvc:=HD3.out.apart.1;have hgs:=HD3.out.grown.size;have hgbl:=lt_of_block HBS.out.gbk
  go_wp2_with (first
   | (at_builtin;refine bm rfl _ _ rfl w.heap.size (.slice (some ⟨vb,0,none⟩) N N) V rfl (HBS.out.own.ext (Ext.alloc _ _)) _ 1 _ [1] rfl (Ints.oneS _ _ _ _ rfl) (by rw [HVL.out];omega) (by simp;omega) ?_
      intro v5 w5 ho hg hnear;obtain ⟨a5,n5,p5,rfl,HN5⟩:=ho.var;have gf:=(hg.block gb (by simp;omega) (fun e=>(HBS.out.free gb e.symm).1 rfl)).trans (((Ext.alloc w3 _).block _ hgbl).trans HBS.out.gbk);have gf1:w5.frozen? ⟨gb,1,none⟩=false:=frozen_of_row w5 gb 1 _ _ gf;have gc1:w5.cell? ⟨gb,1,none⟩=some (.slice (some ⟨vb,0,none⟩) N N):=by rw [cell_of_row w5 gb 1 _ _ _ gf];rfl
      have HB6:=ae ((HBS.out.ext (Ext.alloc _ _)).sets hg (HCR.out.grownRow HR.out hvc hg) ho hnear);have c0':=HB6.out.c0;have c1':=HB6.out.c1;obtain ⟨r0',r1',rf0',rf1'⟩:=HB6.out.r0;have hn5:n5<=17:=by have:=HN5.out;have:=HVL.out;rw [List.length_append,List.length_singleton] at *;omega
      have HF:=ae (HB6.out.fin hn5)
      clear ho hg hnear gf))
  refine bodyPost_ret (v:=.agg #[.int .i64 (n:Int),.slice a5 n5 p5]) (by simp [results,Tryz.results129,go_sem,HF.out.2.1,HF.out.2.2]) rfl HF.out.1
 ·have hds0:DS w w3.drew cb vb gb w.heap.size n V:=HD3.out.ext (Ext.drew w3);have hdsA:DS w (w3.alloc (.cells #[.int .i64 500,.int .i64 501,.int .i64 (-501)] 3)).drew cb vb gb w.heap.size n V:=(HD3.out.ext (Ext.alloc _ _)).ext (Ext.drew _);have hli:Ints (w3.alloc (.cells #[.int .i64 500,.int .i64 501,.int .i64 (-501)] 3)).drew (some ⟨w3.heap.size,0,none⟩) 3 3 [500,501,-501]:=(Ints.lit w3 [500,501,-501] 3 (by decide)).ext (Ext.drew _);have hcl3:=HD3.out.cur.lt;have HC1E:∀ (W:World) (V':List Int),DS w W cb vb gb w.heap.size n V'->W.cell? ⟨gb,1,none⟩=some (.slice (some ⟨vb,0,none⟩) N N):=fun W V' h=>by have:=h.c1;rw [HNC.out] at this;exact this
  obtain ⟨q,hq⟩:∃ q:Nat,(N:Int)-1=(q:Int):=⟨N-1,by omega⟩;have hqN:q<N:=by omega
  have hw1:IntKind.i64.wrap ((N:Int)-1)=(q:Int):=by rw [hq,IntKind.wrap_i64];omega
  have hw2:IntKind.i64.wrap (q:Int)=(q:Int):=by rw [IntKind.wrap_i64];omega
  have HCE:=ae HC1E;clear HC1E;go_wp2_with fail
  go_region_held3 (fun w'=>w'.cell? ⟨gb,1,none⟩=some (.slice (some ⟨vb,0,none⟩) N N))
   (first|with_reducible exact HCE.out _ _ hds0|with_reducible exact HCE.out _ _ hdsA|with_reducible exact HCE.out _ _ hds|with_reducible exact HCE.out _ _ (hds.put _ _))
   (first
     | (go_at_call 106
        refine (dP hdsA.cur hli (by omega) (fun b off e=>by simp only [Option.some.injEq,Addr.mk.injEq,and_true] at e;omega)).mono ?_;rintro e w5 ⟨⟨k,hk,rfl⟩,hc,hg⟩;obtain ⟨y,hy⟩:∃ y,y=([500,501,-501]:List Int)[k]?.getD 0:=⟨_,rfl⟩;rw [<-hy];clear hy;have hds:=hdsA.call hc hg;have hcv:=hds.row.cell (k:=q) (by rw [HVL.out];exact hqN);have hfv:=hds.row.free q;have HDP:=ae (hds.put q y)
        clear hc hg)
     | fail)
  all_goals
   have HB6:=ae (HDP.out.bs (by rw [List.length_set,HVL.out,HNC.out]) (by rw [HNC.out];exact hN32));have c0':=HB6.out.c0;have c1':=HB6.out.c1;obtain ⟨r0',r1',rf0',rf1'⟩:=HB6.out.r0;rw [HNC.out] at HB6 c1';have HF:=ae (HB6.out.fin (by omega));clear HNC HCN;go_wp2_with fail;refine bodyPost_ret (v:=.agg #[.int .i64 (n:Int),.slice (some ⟨vb,0,none⟩) N N]) (by simp [results,Tryz.results129,go_sem,HF.out.2.1,HF.out.2.2]) rfl HF.out.1
 ·have e0:(z == 0)=false:=by simp;omega
  have e1:(z == 1)=false:=by simp;omega
  have e2:(z == 2)=false:=by simp;omega
  have e3:(z == 3)=false:=by simp;omega
  have HF:=ae (HBS.out.fin (by omega));go_wp2_with fail;refine bodyPost_ret (v:=.agg #[.int .i64 (n:Int),.slice (some ⟨vb,0,none⟩) N N]) (by simp [results,Tryz.results129,go_sem,HF.out.2.1,HF.out.2.2]) rfl HF.out.1
section
variable {P:Program} {ops:Array Oper} {Q:Exit->Act->World->Prop} {md:Region.Mode} {S:World->Prop} {M:List Nat}
def eN (M:List Nat) (listed:Array Bool):Prop:=∀ j ∈ M,listed.getD j true=false
theorem eN.set {M:List Nat} {listed:Array Bool} {i:Nat} (h:eN M listed) (hi:i ∉ M):eN M (listed.setIfInBounds i true):=fun j hj=>by
 rw [getD_set_ne true (show i ≠ j from fun e=>hi (by rw [e];exact hj))];exact h j hj
theorem eN.unset {M:List Nat} {listed:Array Bool} {i:Nat} (h:eN M (listed.setIfInBounds i true)) (hi:i ∉ M):eN M listed:=fun j hj=>by
 have:=h j hj
 rwa [getD_set_ne true (show i ≠ j from fun e=>hi (by rw [e];exact hj))] at this
def bZ (P:Program) (md:Region.Mode) (ops:Array Oper) (Q:Exit->Act->World->Prop) (M:List Nat) (S:World->Prop):Nat->Array Bool->Act->World->Prop
 | 0,listed,a,w=>Region.ready md ops listed=[]/\Q .normal a w
 | f+1,listed,a,w=>(Region.ready md ops listed=[]->Q .normal a w) /\
   ∀ i ∈ Region.ready md ops listed,wpOp P ops Q i (fun a' w'=>(eN M (listed.setIfInBounds i true)->S w')/\bZ P md ops Q M S f (listed.setIfInBounds i true) a' w') a w
theorem bZ.any:∀ {f:Nat} {listed:Array Bool} {a:Act} {w:World},bZ P md ops Q M S f listed a w->wpAny P md ops Q f listed a w
 | 0,_,_,_,h=>h
 | f+1,_,_,_,h=>⟨h.1,fun i hi=>wpOp_mono (fun a' w' h'=>bZ.any h'.2) (h.2 i hi)⟩
theorem iK {i:Nat} {oi:Oper} {v:Value} {T:World->Prop} (hi:ops[i]?=some oi) (hsel:∀ (j:Nat) (o:Oper) cs b,ops[j]?=some o->o.op ≠ .select cs b)
 (hQ:∀ c a w,Q (.panic c) (a.put oi.dst v) w->Q (.panic c) a w) (hiM:i ∉ M)
 (hT:(∀ w,T w) ∨ ((∀ w,S w->T w)/\∀ j ∈ M,∀ oj,ops[j]?=some oj->∃ e ∈ oj.after,Region.binds md e=true/\e.on=i)) :
 ∀ (f:Nat) (listed:Array Bool) (a:Act) (w:World),
   (∀ j oj,ops[j]?=some oj->j ≠ i->listed.getD j true=false->(∀ e ∈ oj.after,Region.binds md e=true->e.on ≠ i)->oi.apart ops oj=true) ->
   i ∈ Region.ready md ops listed->YieldsIf P ops T oi v a->(eN M listed->S w)->((∀ w,T w) ∨ eN M listed) ->
   bZ P md ops Q M S f (listed.setIfInBounds i true) (a.put oi.dst v) w->bZ P md ops Q M S (f+1) listed a w:=by
 have now:∀ {listed:Array Bool} {w:World},(eN M listed->S w)->((∀ w,T w) ∨ eN M listed)->T w:=fun {listed w} h1 h2=>by
  rcases h2 with h2|h2
  ·exact h2 w
  ·rcases hT with h3|h3
   ·exact h3 w
   ·exact h3.1 w (h1 h2)
 intro f
 induction f with
 | zero =>
   intro listed a w _ hr hy hS hF H;refine ⟨fun h=>absurd hr (by rw [h];exact List.not_mem_nil),fun j hj=>?_⟩;by_cases hji:j=i
   ·subst hji;exact hy.wpOp hi (now hS hF) ⟨fun h=>hS (h.unset hiM),H⟩
   ·exact absurd (ready_mono hj hji) (by rw [H.1];exact List.not_mem_nil)
 | succ f ih =>
   intro listed a w hfree hr hy hS hF H;refine ⟨fun h=>absurd hr (by rw [h];exact List.not_mem_nil),fun j hj=>?_⟩;by_cases hji:j=i
   ·subst hji;exact hy.wpOp hi (now hS hF) ⟨fun h=>hS (h.unset hiM),H⟩
   ·obtain ⟨hjun,oj,hoj,hall⟩:=mem_ready.1 hj;have hnot:∀ e ∈ oj.after,Region.binds md e=true->e.on ≠ i:=fun e he hb heq=>by
     have h1:=hall e he hb;have h0:=(mem_ready.1 hr).1;rw [heq] at h1
     rcases Nat.lt_or_ge i listed.size with h'|h'
     ·simp [h'] at h0 h1;rw [h0] at h1;cases h1
     ·simp [Array.getElem?_eq_none h'] at h1
    have step:=wpOp_putIf hoj (hfree j oj hoj hji hjun hnot) (fun cs b=>hsel i oi cs b hi) (fun cs b=>hsel j oj cs b hoj) hQ hy (H.2 j (ready_mono hj hji));have hfree':∀ k ok,ops[k]?=some ok->k ≠ i->(listed.setIfInBounds j true).getD k true=false ->
     (∀ e ∈ ok.after,Region.binds md e=true->e.on ≠ i)->oi.apart ops ok=true:=fun k ok hk hki hun hno=>by
     refine hfree k ok hk hki ?_ hno;by_cases hjk:j=k
     ·rw [<-hjk];exact hjun
     ·rwa [getD_set_ne true hjk] at hun
    have hF':(∀ w,T w) ∨ eN M (listed.setIfInBounds j true):=by
     rcases hF with h2|h2
     ·exact .inl h2
     ·rcases hT with h3|h3
      ·exact .inl h3
      ·refine .inr (h2.set fun hjM=>?_);obtain ⟨e,he,hb,ho⟩:=h3.2 j hjM oj hoj;exact hnot e he hb ho
    have e1:(listed.setIfInBounds i true).setIfInBounds j true=(listed.setIfInBounds j true).setIfInBounds i true:=Array.setIfInBounds_comm _ _ (Ne.symm hji);rw [e1] at step;exact wpOp_mono (fun a' w' h3=>⟨fun hFr=>h3.2.1 (hFr.set hiM),ih (listed.setIfInBounds j true) a' w' hfree' (ready_mono hr (Ne.symm hji)) h3.1 (fun hFr=>h3.2.1 (hFr.set hiM)) hF' h3.2.2⟩) step
def waitsB (md:Region.Mode) (ops:Array Oper) (M:List Nat) (i:Nat):Bool:=M.all fun j=>Region.waitsFor md ops j i
theorem sU {i:Nat} {oi:Oper} {v:Value} {f:Nat} {listed:Array Bool} {a:Act} {w:World} (hi:ops[i]?=some oi)
 (hs:Region.noSelect ops=true) (hf:Region.free md ops listed i=true) (hr:(Region.ready md ops listed).contains i=true) (hM:M.contains i=false) (hw:waitsB md ops M i=true) (hfr:M.all (fun j=>!listed.getD j true)=true)
 (hQ:∀ c a w,Q (.panic c) (a.put oi.dst v) w->Q (.panic c) a w) (hy:YieldsIf P ops S oi v a) (hS:S w)
 (h:bZ P md ops Q M S f (listed.setIfInBounds i true) (a.put oi.dst v) w):bZ P md ops Q M S (f+1) listed a w:=by
 refine iK (T:=S) hi (Region.noSelect_spec hs) hQ (by intro h';rw [List.contains_eq_mem,decide_eq_false_iff_not] at hM;exact hM h') (.inr ⟨fun _ h=>h,fun j hj oj hoj=>?_⟩) f listed a w (Region.free_spec hi hf) (by simpa using hr) hy (fun _=>hS) (.inr fun j hj=>?_) h
 ·have h1:=List.all_eq_true.1 hw j hj;obtain ⟨oj',h2,e,he,hb,ho⟩:=Region.waitsFor_spec h1;rw [hoj] at h2;cases h2;exact ⟨e,he,hb,ho⟩
 ·have:=List.all_eq_true.1 hfr j hj
  simpa using this
theorem sV {i:Nat} {oi:Oper} {v:Value} {f:Nat} {listed:Array Bool} {a:Act} {w:World} (hi:ops[i]?=some oi)
 (hs:Region.noSelect ops=true) (hf:Region.free md ops listed i=true) (hr:(Region.ready md ops listed).contains i=true) (hM:M.contains i=false)
 (hQ:∀ c a w,Q (.panic c) (a.put oi.dst v) w->Q (.panic c) a w) (hy:YieldsIf P ops (fun _=>True) oi v a) (hS:S w)
 (h:bZ P md ops Q M S f (listed.setIfInBounds i true) (a.put oi.dst v) w):bZ P md ops Q M S (f+1) listed a w :=
 iK (T:=fun _=>True) hi (Region.noSelect_spec hs) hQ (by intro h';rw [List.contains_eq_mem,decide_eq_false_iff_not] at hM;exact hM h') (.inl fun _=>trivial) f listed a w (Region.free_spec hi hf) (by simpa using hr) hy (fun _=>hS) (.inl fun _=>trivial) h
theorem lu {i:Nat} {oi:Oper} {v:Value} {f:Nat} {listed:Array Bool} {a:Act} {w:World} (hi:ops[i]?=some oi)
 (hs:Region.noSelect ops=true) (hf:Region.free md ops listed i=true) (hr:(Region.ready md ops listed).contains i=true) (hM:M.contains i=false)
 (hQ:∀ c a w,Q (.panic c) (a.put oi.dst v) w->Q (.panic c) a w) (hy:YieldsIf P ops (fun _=>True) oi v a) (hfr:M.any (fun j=>listed.getD j true)=true)
 (h:bZ P md ops Q M S f (listed.setIfInBounds i true) (a.put oi.dst v) w):bZ P md ops Q M S (f+1) listed a w :=
 iK (T:=fun _=>True) hi (Region.noSelect_spec hs) hQ (by intro h';rw [List.contains_eq_mem,decide_eq_false_iff_not] at hM;exact hM h') (.inl fun _=>trivial) f listed a w (Region.free_spec hi hf) (by simpa using hr) hy (fun hF=>by
  obtain ⟨j,hj,h2⟩:=List.any_eq_true.1 hfr;rw [hF j hj] at h2
  cases h2) (.inl fun _=>trivial) h
theorem cV {i:Nat} {oi:Oper} {f:Nat} {listed:Array Bool} {a:Act} {w w':World} (hi:ops[i]?=some oi) (hr:Region.ready md ops listed=[i]) (hM:M.contains i=true) (hl:i<listed.size)
 (hw:Region.wanted oi (yielded ops a.tmps)=true) (hrun:(execOp a.eval oi).run P w=.ok .skip w')
 (h:bZ P md ops Q M S f (listed.setIfInBounds i true) (a.put oi.dst undef) w'):bZ P md ops Q M S (f+1) listed a w:=by
 refine ⟨fun h0=>absurd (hr.symm.trans h0) (by simp),fun j hj=>?_⟩;rw [hr] at hj;obtain rfl:j=i:=by simpa using hj
 unfold wpOp;simp only [hi,hw,if_true];refine .inl ?_;unfold Oper.wp;rw [hrun];refine ⟨fun hF=>absurd (hF j (by simpa using hM)) ?_,h⟩;simp [hl]
theorem aJ {i:Nat} {oi:Oper} {f:Nat} {listed:Array Bool} {a:Act} {w:World} (hi:ops[i]?=some oi) (hr:Region.ready md ops listed=[i]) (hw:Region.wanted oi (yielded ops a.tmps)=true)
 (h:∀ K':Act->World->Prop,Shut (∀ a w,(eN M (listed.setIfInBounds i true)->S w)->bZ P md ops Q M S f (listed.setIfInBounds i true) a w->K' a w)->Oper.wp P oi a w K' Q):bZ P md ops Q M S (f+1) listed a w:=by
 refine ⟨fun h0=>absurd (hr.symm.trans h0) (by simp),fun j hj=>?_⟩;rw [hr] at hj;obtain rfl:j=i:=by simpa using hj
 refine wpOp_step hi (fun K' hK=>?_);rw [if_pos hw];exact h K' (fun a w h1 h2=>hK a w ⟨h1,h2⟩)
theorem lp (i:Nat) {oi:Oper} {v:Value} {f:Nat} {listed l':Array Bool} {a a':Act} {w:World} (h:bZ P md ops Q M S f l' a' w) (hi:ops[i]?=some oi:=by simp only [gA,gB,gC];rfl) (hs:Region.noSelect ops=true:=by kernel_rfl)
 (hf:Region.free md ops listed i=true:=by kernel_rfl) (hr:(Region.ready md ops listed).contains i=true:=by kernel_rfl) (hM:M.contains i=false:=by kernel_rfl) (hQ:∀ c a w,Q (.panic c) (a.put oi.dst v) w->Q (.panic c) a w:=by exact fun _ _ _ h=>h)
 (hy:YieldsIf P ops (fun _=>True) oi v a:=by (refine Or.inl ⟨by rfl,?_⟩;intro w hSw;(try dsimp only at hSw);go_simp;(try with_reducible rfl))) (hS:S w:=by assumption)
 (hl:listed.setIfInBounds i true=l':=by (try simp only [sA,sB,sC]);rfl) (ha:a.put oi.dst v=a':=by (try simp only [Act.put,sA,sB,sC]);rfl):bZ P md ops Q M S (f+1) listed a w:=by subst hl ha;exact sV hi hs hf hr hM hQ hy hS h
theorem ll (i:Nat) {oi:Oper} {v:Value} {f:Nat} {listed l':Array Bool} {a a':Act} {w:World} (h:bZ P md ops Q M S f l' a' w) (hi:ops[i]?=some oi:=by simp only [gA,gB,gC];rfl) (hs:Region.noSelect ops=true:=by kernel_rfl)
 (hf:Region.free md ops listed i=true:=by kernel_rfl) (hr:(Region.ready md ops listed).contains i=true:=by kernel_rfl) (hM:M.contains i=false:=by kernel_rfl) (hD:waitsB md ops M i=true:=by kernel_rfl) (hE:M.all (fun j=>!listed.getD j true)=true:=by kernel_rfl) (hQ:∀ c a w,Q (.panic c) (a.put oi.dst v) w->Q (.panic c) a w:=by exact fun _ _ _ h=>h)
 (hy:YieldsIf P ops S oi v a:=by (refine Or.inl ⟨by rfl,?_⟩;intro w hSw;(try dsimp only at hSw);go_simp;(try with_reducible rfl))) (hS:S w:=by assumption)
 (hl:listed.setIfInBounds i true=l':=by (try simp only [sA,sB,sC]);rfl) (ha:a.put oi.dst v=a':=by (try simp only [Act.put,sA,sB,sC]);rfl):bZ P md ops Q M S (f+1) listed a w:=by subst hl ha;exact sU hi hs hf hr hM hD hE hQ hy hS h
theorem cW {listed:Array Bool} {a:Act} {w:World} (hr:Region.ready md ops listed=[]) (h:Q .normal a w):∀ f,bZ P md ops Q M S f listed a w
 | 0=>⟨hr,h⟩
 | _+1=>⟨fun _=>h,fun i hi=>absurd hi (by rw [hr];exact List.not_mem_nil)⟩
theorem cz {id:Nat} {a:Act} {w:World} (hm:P.follows .mixedOrders=true) (h:bZ P .any ops Q M S ops.size (Array.replicate ops.size false) a w.drew):(Code.region id ops true).wp P Q a w :=
 wp_region_any hm h.any
end
end Go.Proofs.YthjjfkeacobikaaGreat
namespace Go.Proofs.YthjjfkeacobikaaGreat
set_option maxRecDepth 100000
open Go.RowKit
abbrev Bx:=Nat->Option (Array Value × TypeId)
def Bx.nil:Bx:=fun _=>none
def Bx.upd (f:Bx) (b:Nat) (p:Array Value × TypeId):Bx:=fun k=>if k=b then some p else f k
theorem Bx.same (f:Bx) (b:Nat) (p:Array Value × TypeId):f.upd b p b=some p:=by unfold Bx.upd;rw [if_pos rfl]
theorem Bx.other (f:Bx) {b k:Nat} (p:Array Value × TypeId) (h:k ≠ b):f.upd b p k=f k:=by unfold Bx.upd;rw [if_neg h]
structure Bxs (w wr:World) (cb:Nat) (f:Bx):Prop where
 cur:Cur wr cb
 grown:w.grownBy wr (some cb)
 box:∀ b p,f b=some p->wr.heap[b]?=some (.cells p.1 p.2 (0,0))/\b ≠ cb/\w.heap.size<=b
 dry:∀ b p,f b=some p->∀ (j:Nat) (y:Int),p.1[j]? ≠ some (Value.int .u8 y)
section
variable {w wr w':World} {cb b:Nat} {f:Bx} {p:Array Value × TypeId}
theorem Bxs.lt (h:Bxs w wr cb f) (hf:f b=some p):b<wr.heap.size:=lt_of_block (h.box b p hf).1
theorem Bxs.call (h:Bxs w wr cb f) (hc:Cur w' cb) (hg:wr.grownBy w' (some cb)):Bxs w w' cb f :=
 ⟨hc,dK h.grown hg,fun b p hf=>⟨(dI hg (h.lt hf) (h.box b p hf).2.1).trans (h.box b p hf).1,(h.box b p hf).2⟩,h.dry⟩
theorem Bxs.ext (h:Bxs w wr cb f) (hx:Ext wr w'):Bxs w w' cb f:=h.call (h.cur.ext hx) (dJ _ hx)
theorem Bxs.cell (h:Bxs w wr cb f) (hf:f b=some p) (i:Nat):wr.cell? ⟨b,i,none⟩=p.1[i]?:=cell_of_row wr b i _ _ _ (h.box b p hf).1
theorem Bxs.c0 {x0 x1:Value} {t:TypeId} (h:Bxs w wr cb f) (hf:f b=some (#[x0,x1],t)):wr.cell? ⟨b,0,none⟩=some x0:=h.cell hf 0
theorem Bxs.c1 {x0 x1:Value} {t:TypeId} (h:Bxs w wr cb f) (hf:f b=some (#[x0,x1],t)):wr.cell? ⟨b,1,none⟩=some x1:=h.cell hf 1
theorem Bxs.free (h:Bxs w wr cb f) (hf:f b=some p) (i:Nat):wr.frozen? ⟨b,i,none⟩=false:=frozen_of_row wr b i _ _ (h.box b p hf).1
theorem Bxs.start (hc:Cur wr cb) (hg:w.grownBy wr (some cb)):Bxs w wr cb Bx.nil:=⟨hc,hg,fun _ _ h=>(by cases h),fun _ _ h=>(by cases h)⟩
theorem Bxs.add (h:Bxs w wr cb f) (b:Nat) (arr:Array Value) (t:TypeId) (hb:wr.heap[b]?=some (.cells arr t (0,0))) (hne:b ≠ cb) (hw:w.heap.size<=b) (hd:∀ (j:Nat) (y:Int),arr[j]? ≠ some (Value.int .u8 y)):Bxs w wr cb (f.upd b (arr,t)):=by
 refine ⟨h.cur,h.grown,fun k p hf=>?_,fun k p hf=>?_⟩
 all_goals
  by_cases e:k=b
  ·subst e;rw [Bx.same] at hf;cases hf
   first|exact ⟨hb,hne,hw⟩|exact hd
  ·rw [Bx.other _ _ e] at hf
   first|exact h.box k p hf|exact h.dry k p hf
theorem Bxs.new (h:Bxs w wr cb f) (arr:Array Value) (t:TypeId) (hd:∀ (j:Nat) (y:Int),arr[j]? ≠ some (Value.int .u8 y)):Bxs w (wr.alloc (.cells arr t)) cb (f.upd wr.heap.size (arr,t)) :=
 (h.ext (Ext.alloc wr _)).add _ _ _ (heap_alloc_new _ _) (by have:=h.cur.lt;omega) h.grown.size hd
theorem Bxs.put (h:Bxs w wr cb f) (hf:f b=some p) (i:Nat) (v:Value) (hv:∀ y:Int,v ≠ Value.int .u8 y):Bxs w (wr.setCell ⟨b,i,none⟩ v) cb (f.upd b (p.1.setIfInBounds i v,p.2)):=by
 have hb:=h.box b p hf;have ho:∀ j,j ≠ b->(wr.setCell ⟨b,i,none⟩ v).heap[j]?=wr.heap[j]?:=fun j hj=>heap_setCell_other _ _ _ _ hj
 have hg:=h.grown;refine ⟨h.cur.put' hb.2.1 (fun j y e=>?_) i v,⟨hg.os,hg.tape,hg.output,by simpa using hg.size,fun j hj hn=>(ho j (by omega)).trans (hg.block j hj hn)⟩,fun k q hk=>?_,fun k q hk=>?_⟩
 ·rw [h.cell hf] at e;exact h.dry b p hf j y e
 ·by_cases e:k=b
  ·subst e;rw [Bx.same] at hk;cases hk;exact ⟨heap_setCell_same wr k i _ _ v hb.1,hb.2⟩
  ·rw [Bx.other _ _ e] at hk;have:=h.box k q hk;exact ⟨(ho k e).trans this.1,this.2⟩
 ·by_cases e:k=b
  ·subst e;rw [Bx.same] at hk;cases hk;intro j y ej;simp only [Array.getElem?_setIfInBounds] at ej
   split at ej
   ·split at ej
    ·exact hv y (Option.some.inj ej)
    ·cases ej
   ·exact h.dry k p hf j y ej
  ·rw [Bx.other _ _ e] at hk;exact h.dry k q hk
theorem Bxs.put2 {x0 x1:Value} {t:TypeId} (h:Bxs w wr cb f) (hf:f b=some (#[x0,x1],t)) (v0 v1:Value) (h0:∀ y:Int,v0 ≠ Value.int .u8 y) (h1:∀ y:Int,v1 ≠ Value.int .u8 y) :
 Bxs w ((wr.setCell ⟨b,0,none⟩ v0).setCell ⟨b,1,none⟩ v1) cb (f.upd b (#[v0,v1],t)):=by
 have h2:=(h.put hf 0 v0 h0).put (Bx.same _ _ _) 1 v1 h1;refine ⟨h2.cur,h2.grown,fun k p hk=>h2.box k p ?_,fun k p hk=>h2.dry k p ?_⟩
 all_goals
  by_cases e:k=b
  ·subst e;rw [Bx.same] at hk ⊢;rw [<-hk];rfl
  ·rw [Bx.other _ _ e] at hk;rw [Bx.other _ _ e,Bx.other _ _ e];exact hk
theorem OwnI.calls {base:Nat} {v:Value} {V:List Int} (ho:OwnI wr base v V) (hg:wr.grownBy w' (some cb)) (hb:cb<base):OwnI w' base v V :=
 ho.keep fun k hk=>dI hg (ho.lt k hk).2 (by have:=(ho.lt k hk).1;omega)
theorem OwnI.put2 {base:Nat} {v:Value} {V:List Int} (ho:OwnI wr base v V) (hb:b<base) (v0 v1:Value):OwnI ((wr.setCell ⟨b,0,none⟩ v0).setCell ⟨b,1,none⟩ v1) base v V :=
 ((OwnI.on ho).set hb v0 |>.set (a:=⟨b,1,none⟩) hb v1).here
theorem Cur.puts {k:Nat} {u:Value} (h:Cur wr cb) (hne:b ≠ cb) (hb:wr.cell? ⟨b,k,none⟩=some u) (hu:∀ y:Int,u ≠ Value.int .u8 y) (v:Value):Cur (wr.setCell ⟨b,k,none⟩ v) cb:=by
 obtain ⟨ba,bn,bc,i,x,h1,h2,h3,h4,h5⟩:=h;refine ⟨ba,bn,bc,i,x,(heap_setCell_other _ _ _ _ (Ne.symm hne)).trans h1,⟨h2.hcap,h2.hmax,fun j hj=>?_⟩,h3,h4,h5⟩;obtain ⟨b',off,e,hc⟩:=h2.cell j hj;refine ⟨b',off,e,fun j hj=>?_⟩;obtain ⟨y,hy,hy1⟩:=hc j hj;refine ⟨y,(World.cell?_setCell_other _ _ _ _ fun e2=>?_).trans hy,hy1⟩;rw [e2,hy] at hb;exact hu y (Option.some.inj hb).symm
theorem Bxs.putr {k:Nat} {u:Value} (h:Bxs w wr cb f) (hne:b ≠ cb) (hw:w.heap.size<=b) (hf:f b=none) (hb:wr.cell? ⟨b,k,none⟩=some u) (hu:∀ y:Int,u ≠ Value.int .u8 y) (v:Value):Bxs w (wr.setCell ⟨b,k,none⟩ v) cb f:=by
 have ho:∀ j,j ≠ b->(wr.setCell ⟨b,k,none⟩ v).heap[j]?=wr.heap[j]?:=fun j hj=>heap_setCell_other _ _ _ _ hj
 have hg:=h.grown;refine ⟨h.cur.puts hne hb hu v,⟨hg.os,hg.tape,hg.output,by simpa using hg.size,fun j hj hn=>(ho j (by omega)).trans (hg.block j hj hn)⟩,fun j q hq=>?_,h.dry⟩;have:=h.box j q hq;exact ⟨(ho j fun e=>by subst e;rw [hf] at hq;cases hq).trans this.1,this.2⟩
theorem Cur.above (h:Cur wr cb) (hk:∀ k,k<=cb->w'.heap[k]?=wr.heap[k]?):Cur w' cb:=by
 obtain ⟨ba,bn,bc,i,x,h1,h2,h3,h4,h5⟩:=h;refine ⟨ba,bn,bc,i,x,(hk cb (Nat.le_refl _)).trans h1,⟨h2.hcap,h2.hmax,fun j hj=>?_⟩,h3,h4,h5⟩;obtain ⟨b',off,e,hc⟩:=h2.cell j hj;refine ⟨b',off,e,fun j hj=>?_⟩;obtain ⟨y,hy,hy1⟩:=hc j hj;exact ⟨y,(fm (hk b' (Nat.le_of_lt (h5 b' off e (by omega)))) _).trans hy,hy1⟩
theorem Bxs.grew {r:Option Nat} (h:Bxs w wr cb f) (hg:wr.grownBy w' r) (hr:∀ k,r=some k->cb<k/\w.heap.size<=k/\f k=none):Bxs w w' cb f:=by
 have hl:=h.cur.lt;refine ⟨h.cur.above fun k hk=>hg.block k (by omega) (fun e=>by have:=(hr k e.symm).1;omega),?_,fun b p hb=>?_,h.dry⟩
 ·have h0:=h.grown;exact ⟨hg.os.trans h0.os,hg.tape.trans h0.tape,hg.output.trans h0.output,Nat.le_trans h0.size hg.size,fun j hj hn=>(hg.block j (by have:=h0.size;omega) (fun e=>by have:=(hr j e.symm).2.1;omega)).trans (h0.block j hj hn)⟩
 ·have:=h.box b p hb;exact ⟨(hg.block b (h.lt hb) (fun e=>by have:=(hr b e.symm).2.2;rw [this] at hb;cases hb)).trans this.1,this.2⟩
theorem Bxs.all (h:Bxs w wr cb f) (hcb:w.heap.size<=cb):Ext w wr:=ak (Ext.refl w) h.grown (fun k hk=>by have:=Option.some.inj hk;omega)
end
theorem hO (x:Int) (s:Value) (hs:∀ y:Int,s ≠ Value.int .u8 y):∀ (j:Nat) (y:Int),(#[Value.int .i64 x,s]:Array Value)[j]? ≠ some (Value.int .u8 y):=fun j y e=>by
 match j with
 | 0=>simp at e
 | 1=>exact hs y (by simpa using e)
 | j+2=>simp at e
theorem gl (a:Option Addr) (n c:Nat):∀ y:Int,Value.slice a n c ≠ Value.int .u8 y:=fun y e=>by cases e
theorem eD (x:Int):∀ y:Int,Value.int .i64 x ≠ Value.int .u8 y:=fun y e=>by cases e
end Go.Proofs.YthjjfkeacobikaaGreat
namespace Go.Proofs.YthjjfkeacobikaaGreat
def gI (a b:Int):Int:=(Int.gcd a b:Int)
theorem qo (a b:Int):gI b (a.tmod b)=gI a b:=by
 unfold gI Int.gcd;rw [Int.natAbs_tmod,Nat.gcd_comm b.natAbs,<-Nat.gcd_rec,Nat.gcd_comm]
theorem mh (a:Int):gI a 0=(a.natAbs:Int):=by simp [gI]
theorem gQ (a b:Int):gI (-a) b=gI a b:=by simp [gI,Int.gcd]
theorem jK (a b:Int):gI a (-b)=gI a b:=by simp [gI,Int.gcd]
theorem jr (a:Int) {b:Int} (h:b ≠ 0):1<=gI a b:=by
 unfold gI;have:0<Int.gcd a b:=Int.gcd_pos_of_ne_zero_right a h;omega
theorem mU (a b:Int):0<=gI a b:=by unfold gI;omega
theorem gI_le (a:Int) {b:Int} (h:b ≠ 0):gI a b<=b.natAbs:=by
 unfold gI Int.gcd
 exact_mod_cast Nat.gcd_le_right _ (by omega)
theorem me (a b:Int):gI a b ∣ a:=Int.gcd_dvd_left ..
theorem jJ (a b:Int):gI a b ∣ b:=Int.gcd_dvd_right ..
def valR (p:Int × Int):Bool:=inB p.2 1 1000000000&&(inB p.1 (-1000000000) 1000000000&&decide (gI p.1 p.2=1))
theorem aU {p:Int × Int} (h:valR p=true):1<=p.2/\p.2<=1000000000/\-1000000000<=p.1/\p.1<=1000000000:=by
 simp only [valR,inB,Bool.and_eq_true,decide_eq_true_eq] at h;omega
theorem fT (x y:Int):valR (-x,y)=valR (x,y):=by
 have h1:inB (-x) (-1000000000) 1000000000=inB x (-1000000000) 1000000000:=by
  unfold inB;have e1:decide (-1000000000<=-x)=decide (x<=1000000000):=by by_cases h:x<=1000000000 <;> simp [h] <;> omega
  have e2:decide (-x<=1000000000)=decide (-1000000000<=x):=by by_cases h:-1000000000<=x <;> simp [h] <;> omega
  rw [e1,e2,Bool.and_comm]
 simp only [valR,gQ,h1]
def cutR (p:Int × Int):(Int × Int) × Bool:=if valR p=true then (p,true) else ((0,0),false)
def aL (n d:Int):(Int × Int) × Bool :=
 if d=0 ∨ inB n (-1000000000000000000) 1000000000000000000=false ∨ inB d (-1000000000000000000) 1000000000000000000=false then ((0,0),false)
 else if d<0 then cutR (n.tdiv (-gI n d),d.tdiv (-gI n d)) else cutR (n.tdiv (gI n d),d.tdiv (gI n d))
theorem oa {p:Int × Int} (h:(cutR p).2=true):valR (cutR p).1=true:=by
 unfold cutR at h ⊢
 split at h
 ·next h1=>rw [if_pos h1];exact h1
 ·simp at h
theorem gj {n d:Int} (h:(aL n d).2=true):valR (aL n d).1=true:=by
 unfold aL at h ⊢
 split at h
 ·simp at h
 ·next h1 =>
  rw [if_neg h1]
  split at h
  ·next h2=>rw [if_pos h2];exact oa h
  ·next h2=>rw [if_neg h2];exact oa h
theorem ratOf_no {n d:Int} (h:(aL n d).2=false):(aL n d).1=(0,0):=by
 unfold aL cutR at h ⊢
 split at h
 ·next h1=>rw [if_pos h1]
 ·next h1 =>
  rw [if_neg h1]
  split at h
  ·next h2 =>
   rw [if_pos h2]
   split at h
   ·simp at h
   ·next h3=>rw [if_neg h3]
  ·next h2 =>
   rw [if_neg h2]
   split at h
   ·simp at h
   ·next h3=>rw [if_neg h3]
theorem jq (n d:Int) (hd:0<d):gI (n.tdiv (gI n d)) (d.tdiv (gI n d))=1:=by
 have hg:=jr n (show d ≠ 0 by omega);obtain ⟨k,hk⟩:=me n d;obtain ⟨m,hm⟩:=jJ n d;have h1:n.tdiv (gI n d)=k:=by
    conv=>lhs;arg 1;rw [hk]
    exact Int.mul_tdiv_cancel_left _ (by omega)
 have h2:d.tdiv (gI n d)=m:=by
    conv=>lhs;arg 1;rw [hm]
    exact Int.mul_tdiv_cancel_left _ (by omega)
 rw [h1,h2];have h3:gI (gI n d*k) (gI n d*m)=gI n d:=by rw [<-hk,<-hm]
 have h4:gI (gI n d*k) (gI n d*m)=gI n d*gI k m:=by
  show ((Int.gcd _ _:Nat):Int)=_;rw [Int.gcd_mul_left];have:((gI n d).natAbs:Int)=gI n d:=by omega
  rw [Int.natCast_mul,this]
  rfl
 rw [h3] at h4;have h5:gI n d*1=gI n d*gI k m:=by omega
 have:=Int.eq_of_mul_eq_mul_left (by omega) h5;omega
theorem kN (n g:Int) (hg:1<=g):(n.tdiv g).natAbs<=n.natAbs:=by
 rw [Int.natAbs_tdiv];exact Nat.div_le_self _ _
theorem ratOf_ok {n d:Int} (hd:1<=d) (hd':d<=1000000000) (h:-1000000000<=n) (h':n<=1000000000):(aL n d).2=true:=by
 have hg:=jr n (show d ≠ 0 by omega);have hgl:=gI_le n (show d ≠ 0 by omega);unfold aL;rw [if_neg (by simp [inB];omega),if_neg (by omega)];unfold cutR;have h1:=kN n (gI n d) hg;have h2:=kN d (gI n d) hg;have h3:1<=d.tdiv (gI n d):=by
  obtain ⟨m,hm⟩:=jJ n d;have h2:d.tdiv (gI n d)=m:=by
     conv=>lhs;arg 1;rw [hm]
     exact Int.mul_tdiv_cancel_left _ (by omega)
  rw [h2]
  rcases Int.lt_or_le 0 m with h|h
  ·omega
  ·have:gI n d*m<=0:=Int.mul_nonpos_of_nonneg_of_nonpos (by omega) h;omega
 rw [if_pos];simp only [valR,inB,jq n d (by omega),Bool.and_eq_true,decide_eq_true_eq,and_true];omega
def addR (a b:Int × Int):(Int × Int) × Bool:=if (valR a&&valR b)=true then aL (a.1*b.2+b.1*a.2) (a.2*b.2) else ((0,0),false)
def subR (a b:Int × Int):(Int × Int) × Bool:=if (valR a&&valR b)=true then aL (a.1*b.2-b.1*a.2) (a.2*b.2) else ((0,0),false)
def mulR (a b:Int × Int):(Int × Int) × Bool:=if (valR a&&valR b)=true then aL (a.1*b.1) (a.2*b.2) else ((0,0),false)
def divR (a b:Int × Int):(Int × Int) × Bool:=if (valR a&&valR b)=true then aL (a.1*b.2) (a.2*b.1) else ((0,0),false)
def cmpR (a b:Int × Int):Int:=if (valR a&&valR b)=true then (if a.1*b.2<b.1*a.2 then -1 else if b.1*a.2<a.1*b.2 then 1 else 0) else 0
theorem kM (a b:Int × Int):addR a (-b.1,b.2)=subR a b:=by
 unfold addR subR;rw [fT,Int.neg_mul,<-Int.sub_eq_add_neg]
theorem mul_bd {x y:Int} (h1:-1000000000<=x) (h2:x<=1000000000) (h3:-1000000000<=y) (h4:y<=1000000000):-1000000000000000000<=x*y/\x*y<=1000000000000000000:=by
 have hx:x.natAbs<=1000000000:=by omega
 have hy:y.natAbs<=1000000000:=by omega
 have h:(x*y).natAbs<=1000000000*1000000000:=by
  rw [Int.natAbs_mul];exact Nat.mul_le_mul hx hy
 omega
end Go.Proofs.YthjjfkeacobikaaGreat
