import Derived.Test.YtalmoolkhcgmmaaGreatNqAltG2
import Derived.Test.YtalmoolkhcgmmaaGreatNqAltG0
import Derived.Deep.DeepCutAuto
import Derived.Deep.RegionHeld3
import Derived.Deep.RegionLaw
import Derived.StillTailTactics
set_option linter.unusedVariables false
set_option linter.unusedSimpArgs false
namespace Go.Proofs.YtalmoolkhcgmmaaGreat
variable{V:j9}{w w' wr:World}{cb b vb gb rb n:Nat}
set_option maxHeartbeats 16000000
set_option maxRecDepth 100000
open Go.RowKit
def Fy(s:Nat)(k:Nat):Nat:=(List.range k).countP fun j=>bit (s:Int) j
theorem wa(s k:Nat):Fy s (k+1)=Fy s k+if bit (s:Int) k then 1 else 0:=by
 unfold Fy;rw[List.range_succ,List.countP_append];simp[List.countP_cons]
theorem tp(s k:Nat):Fy s k<=k:=by unfold Fy;exact Nat.le_trans List.countP_le_length e7
theorem jQ(s:Nat)(hs:s<4294967296)(w:World):Calls Tryz.prog 87 #[.int .i64 (s:Int)] w fun e w'=>e=.returned (.int .i64 (Fy s 5:Int))/\w=w':=by
 go_enter Tryz.func87,Tryz.ntmps87
 go_wp2_with fail
 go_loop [3,4] (fun G kk=>∃k:Nat,k<=5/\kk=.int .i64 (k:Int)/\G=.int .i64 (Fy s k:Int)) (fun _ kk=>5-(intOf kk).toNat)
 case atStart=>exact⟨0,by omega,rfl,rfl⟩
 case round =>
  obtain⟨k,hk,rfl,rfl⟩:=hrel;have hple:=tp s k;by_cases hlt:k<5
  ·have HP:=ae (ee (s:Int) (k:Int) w b9);have HB:=ae (iw (s:Int) k b9 b9);have HS:=ae (wa s k);cases hb:bit (s:Int) k
   all_goals
    rw[HB.o,hb]at HP;rw[hb]at HS;clear hb;go_wp2_with fail;refine HP.o.mono ?_;rintro e w' ⟨rfl,rfl⟩;go_wp2_with fail
    go_round
    case rel=>exact⟨k+1,by omega,by go_num,by rw[HS.o];go_num⟩
    case measure=>simp[intOf];omega
  ·have I:k=5:=by omega
   subst I;go_wp2_with fail;go_ret;exact⟨rfl,rfl⟩
def Tiny(V:j9):Prop:=∀k:Nat,-100<=V[k]?.getD 0/\V[k]?.getD 0<=100
theorem Tiny.zeros(n:Nat):Tiny (List.replicate n 0):=fun k=>by
 by_cases h:k<n
 ·simp[h]
 ·rw[List.getElem?_eq_none (by simp;omega)];simp
theorem Tiny.set(h:Tiny V)(k:Nat){x:Int}(h0:-100<=x)(h1:x<=100):Tiny (V.set k x):=fun j=>by
 by_cases e:j=k
 ·subst e;by_cases hj:j<V.length
  ·rw[List.getElem?_set_self hj];exact⟨h0,h1⟩
  ·rw[List.getElem?_eq_none (by simp;omega)];simp
 ·rw[List.getElem?_set_ne (Ne.symm e)];exact h j
theorem dW(hg:w.grownBy w' (some cb))(hb:b<w.heap.size)(hne:b≠cb):w'.heap[b]?=w.heap[b]?:=hg.block b hb fun e=>hne (Option.some.inj e)
structure Zu(w w':World)(cb most n vb:Nat)(V:j9):Prop where
 lo:1<=n
 hi:n<=most
 len:V.length=cN n
 tiny:Tiny V
 zero:V[0]?.getD 0=0
 row:Row w' vb 3 V
 new:w.heap.size<=vb
 ne:vb≠cb
theorem Aa.put{t:TypeId}(h:Aa w cb)(hr:Row w vb t V)(hne:vb≠cb)(k:Nat)(v:Value):Aa (w.setCell ⟨vb,k,none⟩ v) cb:=by
 obtain⟨ba,bn,bc,i,x,h1,h2,h3,h4,h5⟩:=h;refine⟨ba,bn,bc,i,x,(heap_setCell_other _ _ _ _ (Ne.symm hne)).trans h1,⟨h2.o3,h2.l9,fun j hj=>?_⟩,h3,h4,h5⟩;obtain⟨b,off,e,hc⟩:=h2.cell j hj;refine⟨b,off,e,fun j hj=>?_⟩;obtain⟨y,hy,xM⟩:=hc j hj;refine⟨y,(fL (heap_setCell_other _ _ _ _ ?_) _).trans hy,xM⟩;intro e2;subst e2;rw[cell_of_row w b _ _ _ _ hr]at hy;simp[bw,List.getElem?_map]at hy
structure DS(w wr:World)(cb vb gb rb n:Nat)(V:j9):Prop where
 row:Row wr vb 3 V
 cur:Aa wr cb
 F7:wr.heap[gb]?=some (.cells #[.int .i64 (n:Int),.slice (some ⟨vb,0,none⟩) (cN n) (cN n)] 26 (0,0))
 GV:wr.heap[rb]?=some (.cells #[.int .i64 0,.slice none 0 0] 26 (0,0))
 grown:w.grownBy wr (some cb)
 apart:vb≠cb/\gb≠cb/\rb≠cb/\gb≠vb/\rb≠vb/\rb≠gb/\w.heap.size<=vb/\w.heap.size<=gb/\w.heap.size<=rb
theorem DS.call(h:DS w wr cb vb gb rb n V)(hc:Aa w' cb)(hg:wr.grownBy w' (some cb)):DS w w' cb vb gb rb n V :=
 ⟨(dW hg h.row.lt h.apart.1).trans h.row,hc,(dW hg (lt_of_block h.F7) h.apart.2.1).trans h.F7,(dW hg (lt_of_block h.GV) h.apart.2.2.1).trans h.GV,dY h.grown hg,h.apart⟩
theorem DS.ext(h:DS w wr cb vb gb rb n V)(hx:Ext wr w'):DS w w' cb vb gb rb n V :=
 h.call (h.cur.ext hx) (dX _ hx)
theorem DS.put(h:DS w wr cb vb gb rb n V)(k:Nat)(x:Int):DS w (wr.setCell ⟨vb,k,none⟩ (.int .i64 x)) cb vb gb rb n (V.set k x):=by
 obtain⟨h1,h2,h3,h4,h5,h6,h7,h8,h9⟩:=h.apart;have ho:∀j,j≠vb->(wr.setCell ⟨vb,k,none⟩ (.int .i64 x)).heap[j]?=wr.heap[j]?:=fun j hj=>heap_setCell_other _ _ _ _ hj
 refine⟨h.row.set k x,h.cur.put h.row h1 k _,(ho _ h4).trans h.F7,(ho _ h5).trans h.GV,?_,h.apart⟩;have hg:=h.grown;exact⟨hg.os,hg.tape,hg.output,by simpa using hg.size,fun j hj hne=>(ho j b9).trans (hg.block j hj hne)⟩
theorem DS.c0(h:DS w wr cb vb gb rb n V):wr.cell? ⟨gb,0,none⟩=some (.int .i64 (n:Int)):=by rw[cell_of_row wr gb 0 _ _ _ h.F7];rfl
theorem DS.c1(h:DS w wr cb vb gb rb n V):wr.cell? ⟨gb,1,none⟩=some (.slice (some ⟨vb,0,none⟩) (cN n) (cN n)):=by rw[cell_of_row wr gb 1 _ _ _ h.F7];rfl
theorem Aa.put'(h:Aa w cb)(hne:b≠cb)(G:∀j x,w.cell? ⟨b,j,none⟩≠some (.int .u8 x))(k:Nat)(v:Value):Aa (w.setCell ⟨b,k,none⟩ v) cb:=by
 obtain⟨ba,bn,bc,i,x,h1,h2,h3,h4,h5⟩:=h;refine⟨ba,bn,bc,i,x,(heap_setCell_other _ _ _ _ (Ne.symm hne)).trans h1,⟨h2.o3,h2.l9,fun j hj=>?_⟩,h3,h4,h5⟩;obtain⟨I,off,e,hc⟩:=h2.cell j hj;refine⟨I,off,e,fun j hj=>?_⟩;obtain⟨y,hy,xM⟩:=hc j hj;refine⟨y,(fL (heap_setCell_other _ _ _ _ ?_) _).trans hy,xM⟩;intro e2;subst e2;exact G _ _ hy
theorem mU{W:World}{x:Int}{s:Value}{t:TypeId}(hc:Aa W cb)(hb:W.heap[b]?=some (.cells #[.int .i64 x,s] t (0,0)))(hs:∀y,s≠.int .u8 y)(hne:b≠cb)(hg:w.grownBy W (some cb))(hw:w.heap.size<=b)(x':Int)(G:Value)(Rl:∀y,G≠.int .u8 y):
 Aa ((W.setCell ⟨b,0,none⟩ (.int .i64 x')).setCell ⟨b,1,none⟩ G) cb/\w.grownBy ((W.setCell ⟨b,0,none⟩ (.int .i64 x')).setCell ⟨b,1,none⟩ G) (some cb)/\(∀j,j≠b->((W.setCell ⟨b,0,none⟩ (.int .i64 x')).setCell ⟨b,1,none⟩ G).heap[j]?=W.heap[j]?)/\((W.setCell ⟨b,0,none⟩ (.int .i64 x')).setCell ⟨b,1,none⟩ G).heap[b]?=some (.cells #[.int .i64 x',G] t (0,0)):=by
 have ho:∀j,j≠b->((W.setCell ⟨b,0,none⟩ (.int .i64 x')).setCell ⟨b,1,none⟩ G).heap[j]?=W.heap[j]?:=fun j hj=>by
  rw[heap_setCell_other _ _ _ _ hj,heap_setCell_other _ _ _ _ hj]
 have no:∀{W:World} {x:Int} {s:Value},W.heap[b]?=some (.cells #[.int .i64 x,s] t (0,0))->(∀y,s≠.int .u8 y)->∀j y,W.cell? ⟨b,j,none⟩≠some (.int .u8 y):=fun{W x s} hb hs j y e=>by
  rw[cell_of_row W b j _ _ _ hb]at e
  match j with
  | 0=>simp at e
  | 1=>exact hs y (by simpa using e)
  | j+2=>simp at e
 have h1:=heap_setCell_same W b 0 _ t (.int .i64 x') hb;have I:(W.setCell ⟨b,0,none⟩ (.int .i64 x')).heap[b]?=some (.cells #[.int .i64 x',s] t (0,0)):=h1;have h2:=heap_setCell_same _ b 1 _ t G I;refine⟨(hc.put' hne (no hb hs) 0 _).put' hne (no I hs) 1 _,⟨hg.os,hg.tape,hg.output,by simpa using hg.size,fun j hj hn=>(ho j b9).trans (hg.block j hj hn)⟩,ho,h2⟩
theorem Ints.lit(w:World)(l:j9)(t:TypeId)(hl:l.length<=9223372036854775807):Ints (w.alloc (.cells (bw l) t)) (some ⟨w.heap.size,0,none⟩) l.length l.length l :=
 Row.ints (heap_alloc_new w _) rfl (Nat.le_refl _) hl
theorem VV:∀k,k<8->-100<=([0,1,2,3,5,8,-2,4]:j9)[k]?.getD 0/\([0,1,2,3,5,8,-2,4]:j9)[k]?.getD 0<=100:=by
 intro k hk;have:∀k:Fin 8,-100<=([0,1,2,3,5,8,-2,4]:j9)[k.val]?.getD 0/\([0,1,2,3,5,8,-2,4]:j9)[k.val]?.getD 0<=100:=by decide
 exact this ⟨k,hk⟩
theorem Sw(x y:Int)(w:World):Calls Tryz.prog 89 #[.int .i64 x,.int .i64 y] w fun e w'=>e=.returned (.int .i64 (max x y))/\w=w':=by
 by_cases h:y<x
 all_goals
  have H:=ae h;go_enter Tryz.func89,Tryz.ntmps89
  go_wp2_with fail;go_ret;exact⟨aU (j4 H.o),rfl⟩
theorem dS(b:Bool)(y:Int)(h0:0<=y)(h1:y<=1):-100<=wL b*(3+y*3)/\wL b*(3+y*3)<=100:=by
 unfold wL;cases b
 ·simp
 ·simp;omega
theorem rB(h:Aa w cb)(K:Nat)(h1:1<=K)(h5:K<=5):
 Calls Tryz.prog 39 #[.pointer (some ⟨cb,0,none⟩),.int .i64 (K:Int)] w fun e w'=>(∃(n vb:Nat) (V:j9),e=.returned (.agg #[.int .i64 (n:Int),.slice (some ⟨vb,0,none⟩) (cN n) (cN n)])/\Zu w w' cb K n vb V)/\Aa w' cb/\w.grownBy w' (some cb):=by
 have EP:=h.lt;have HX:=ae (Ext.alloc w (.cells #[.int .i64 0,.slice none 0 0] 26));have HC:=ae (h.ext HX.o);have HB:=ae (eO HC.o (K:Int) b9);have Dp:(w.alloc (.cells #[.int .i64 0,.slice none 0 0] 26)).heap[w.heap.size]?=some (.cells #[.int .i64 0,.slice none 0 0] 26 (0,0)):=heap_alloc_new _ _;have xU:=ae Dp;clear h Dp;go_enter Tryz.func39,Tryz.ntmps39
 go_wp2_with fail;refine HB.o.mono ?_;rintro e w1 ⟨⟨x,rfl,wI,wO⟩,hc,hg⟩;have J0:=ae hc;have Jl:=ae hg;have YC:=ae ((dW hg e7 b9).trans xU.o);have Cu:=hg.size;rw[World.size_alloc]at Cu;obtain⟨n,hn⟩:∃n:Nat,1+x=(n:Int):=⟨(1+x).toNat,by omega⟩;have Bj:1<=n:=by omega
 have Oh:n<=K:=by omega
 have Rq:n<=5:=by omega
 have EH:=cu n Rq;have U9:=jq (cN n) b9;clear hc hg wI wO;go_wp2_with fail;refine(Lb n Rq _).mono ?_;rintro e w2 ⟨rfl,rfl⟩;go_wp2_with fail;obtain⟨vb,AD⟩:=b8 w1.heap.size;obtain⟨w2,A7⟩:=b8 ((w1.alloc (.cells (bw (List.replicate (cN n) 0)) 3)).alloc (.cells #[.int .i64 (n:Int),.slice (some ⟨w1.heap.size,0,none⟩) (cN n) (cN n)] 26));rw[<-A7,<-AD]
 have HD2:=ae (show DS w w2 cb vb (vb+1) w.heap.size n (List.replicate (cN n) 0)by
  have hx:Ext w1 w2:=by rw[A7];exact(Ext.alloc _ _).trans (Ext.alloc _ _)
  have CK:w.grownBy w1 (some cb):=dY (dX (some cb) HX.o) Jl.o;refine⟨?_,J0.o.ext hx,?_,(hx.block _ (lt_of_block YC.o)).trans YC.o,dY CK (dX (some cb) hx),by omega⟩
  ·unfold Row;rw[A7,bX _ _ _ (by simp;omega)];exact ak _ _ _ AD
  ·rw[A7,AD];exact ak _ _ _ e7)
 clear A7;refine(eO HD2.o.cur 4 b9).mono ?_;rintro e w3 ⟨⟨z,rfl,y9,CE⟩,hc,hg⟩;have EA:=ae (HD2.o.call hc hg);have c1:=EA.o.c1;clear hc hg U9 hn AD;go_wp2_with fail
 go_loopg [8] (cN n-1) (fun gk ss wr=>∃(s:Nat) (V:j9),b7 (gk+s=cN n)/\ss=.int .i64 (s:Int)/\b7 (1<=s)/\b7 (V.length=cN n)/\b7 (Tiny V)/\b7 (V[0]?.getD 0=0)/\b7 (DS w wr cb vb (vb+1) w.heap.size n V))
 case atStart=>exact⟨1,_,ae b9,rfl,ae b9,ae e7,ae (Tiny.zeros _),ae (by cases cN n<;>simp),EA⟩
 case round =>
  obtain⟨g1,r7⟩:=b8 gk;subst r7;obtain⟨J,o6⟩:=b8 wr;subst o6;obtain⟨s,V,HS,rfl,JL,yD,W,Z,HD⟩:=hrel;clear c1;have c1:=HD.o.c1;by_cases hlt:s<cN n
  ·obtain⟨I,SL⟩:∃q:Int,q=(Fy s 5:Int):=⟨_,rfl⟩;have hz5:0<=I/\I<=5:=by have:=tp s 5;omega
   have hsq:0<=I*I/\I*I<=25:=by
    have h1:I*I<=5*5:=Int.mul_le_mul b9 b9 b9 b9;have h2:0<=I*I:=Int.mul_nonneg b9 b9;omega
   obtain⟨hsq0,hsq1⟩:=hsq;obtain⟨hz50,hz51⟩:=hz5;have HZ:=ae SL;have PJ:s<4294967296:=by omega
   have hwz:IntKind.i64.wrap (I*I)=I*I:=by rw[IntKind.wrap_i64];omega
   clear SL;have MP:z=0∨z=1∨z=2∨z=3:=by omega
   rcases MP with rfl|rfl|rfl|rfl
   ·go_wp2_with fail;have G:DS w J.drew cb vb (vb+1) w.heap.size n V:=HD.o.ext (Ext.drew J)
    go_region_held3 (fun w'=>w'.cell? ⟨vb+1,1,none⟩=some (.slice (some ⟨vb,0,none⟩) (cN n) (cN n)))
     (first|with_reducible exact G.c1|with_reducible exact(G.put _ _).c1)
     (first
       | (go_at_call 87;refine(jQ s PJ _).mono ?_;rw[<-HZ.o];rintro e w' ⟨rfl,rfl⟩)
       | (go_at_call 44
          refine(eO G.cur 2 b9).mono ?_;rintro e w5 ⟨⟨y,rfl,O,xM⟩,hc,hg⟩;have G:=G.call hc hg;have R:=G.row.cell (k:=s) (by rw[yD.o];exact hlt);have JE:=G.row.free s
          clear hc hg)
       | fail)
    all_goals
     go_wp2_with fail
     go_roundg (g1-1)
     case measure=>have:=HS.o;omega
     case rel =>
      refine⟨s+1,_,ae (j4 HS.o),by go_num,ae b9,ae ?_,ae ?_,ae ?_,ae (G.put s _)⟩
      ·rw[List.length_set];exact yD.o
      ·refine W.o.set s ?_ ?_<;>(first|omega|(rw[IntKind.wrap_i64];omega)|(have zN:=dS (decide ((n:Int)<I*2)) y O xM;unfold wrap64;omega))
      ·rw[List.getElem?_set_ne (j4 JL.o)];exact Z.o
   ·go_wp2_with fail;have Ts:DS w J.drew cb vb (vb+1) w.heap.size n V:=HD.o.ext (Ext.drew J);have Ic:DS w (J.alloc (.cells #[.int .i64 0,.int .i64 1,.int .i64 2,.int .i64 3,.int .i64 5,.int .i64 8,.int .i64 (-2),.int .i64 4] 3)).drew cb vb (vb+1) w.heap.size n V:=(HD.o.ext (Ext.alloc _ _)).ext (Ext.drew _);have PT:Ints (J.alloc (.cells #[.int .i64 0,.int .i64 1,.int .i64 2,.int .i64 3,.int .i64 5,.int .i64 8,.int .i64 (-2),.int .i64 4] 3)).drew (some ⟨J.heap.size,0,none⟩) 8 8 [0,1,2,3,5,8,-2,4]:=(Ints.lit J [0,1,2,3,5,8,-2,4] 3 (by decide)).ext (Ext.drew _);have hcl2:=HD.o.cur.lt
    go_region_held3 (fun w'=>w'.cell? ⟨vb+1,1,none⟩=some (.slice (some ⟨vb,0,none⟩) (cN n) (cN n)))
     (first|with_reducible exact Ts.c1|with_reducible exact Ic.c1|with_reducible exact G.c1|with_reducible exact(G.put _ _).c1)
     (first
       | (go_at_call 88
          refine(eh Ic.cur PT b9 (fun b off e=>by simp only[Option.some.injEq,Addr.mk.injEq,and_true]at e;omega)).mono ?_;rintro e w5 ⟨⟨k,hk,rfl⟩,hc,hg⟩;have U:=VV k hk;obtain⟨y,hy⟩:=b8 (([0,1,2,3,5,8,-2,4]:j9)[k]?.getD 0);rw[<-hy]at U;rw[<-hy];obtain⟨O,xM⟩:=U;clear hy;have G:=Ic.call hc hg;have R:=G.row.cell (k:=s) (by rw[yD.o];exact hlt);have JE:=G.row.free s
          clear hc hg)
       | fail)
    all_goals
     go_wp2_with fail
     go_roundg (g1-1)
     case measure=>have:=HS.o;omega
     case rel =>
      refine⟨s+1,_,ae (j4 HS.o),by go_num,ae b9,ae ?_,ae ?_,ae ?_,ae (G.put s _)⟩
      ·rw[List.length_set];exact yD.o
      ·exact W.o.set s O xM
      ·rw[List.getElem?_set_ne (j4 JL.o)];exact Z.o
   ·have AK:IntKind.i64.wrap (3*I)=3*I:=by rw[IntKind.wrap_i64];omega
    have hw32:IntKind.i64.wrap (3*I-2)=3*I-2:=by rw[IntKind.wrap_i64];omega
    go_wp2_with fail;have G:DS w J.drew cb vb (vb+1) w.heap.size n V:=HD.o.ext (Ext.drew J)
    go_region_held3 (fun w'=>w'.cell? ⟨vb+1,1,none⟩=some (.slice (some ⟨vb,0,none⟩) (cN n) (cN n)))
     (first|with_reducible exact G.c1|with_reducible exact(G.put _ _).c1)
     (first
       | (go_at_call 87;refine(jQ s PJ _).mono ?_;rw[<-HZ.o];rintro e w' ⟨rfl,rfl⟩)
       | (go_at_call 89;refine(Sw _ _ _).mono ?_;rintro e w' ⟨rfl,rfl⟩)
       | (go_at_call 44
          refine(eO G.cur 2 b9).mono ?_;rintro e w5 ⟨⟨y,rfl,O,xM⟩,hc,hg⟩;have G:=G.call hc hg;have R:=G.row.cell (k:=s) (by rw[yD.o];exact hlt);have JE:=G.row.free s;have hwy:IntKind.i64.wrap (3*I-2-y)=3*I-2-y:=by rw[IntKind.wrap_i64];omega
          clear hc hg)
       | fail)
    all_goals
     go_wp2_with fail
     go_roundg (g1-1)
     case measure=>have:=HS.o;omega
     case rel =>
      refine⟨s+1,_,ae (j4 HS.o),by go_num,ae b9,ae ?_,ae ?_,ae ?_,ae (G.put s _)⟩
      ·rw[List.length_set];exact yD.o
      ·refine W.o.set s ?_ ?_<;>(first|omega|(rw[IntKind.wrap_i64];omega)|exact(dS _ _ O xM).1|exact(dS _ _ O xM).2|(have zN:=dS (decide ((n:Int)<I*2)) y O xM;rw[IntKind.wrap_i64];omega)|(have zN:=dS (decide ((n:Int)<I*2)) y O xM;unfold wrap64;omega))
      ·rw[List.getElem?_set_ne (j4 JL.o)];exact Z.o
   ·have AK:IntKind.i64.wrap (I*2)=I*2:=by rw[IntKind.wrap_i64];omega
    go_wp2_with fail;have G:DS w J.drew cb vb (vb+1) w.heap.size n V:=HD.o.ext (Ext.drew J)
    go_region_held3 (fun w'=>w'.cell? ⟨vb+1,1,none⟩=some (.slice (some ⟨vb,0,none⟩) (cN n) (cN n)))
     (first|with_reducible exact G.c1|with_reducible exact(G.put _ _).c1)
     (first
       | (go_at_call 87;refine(jQ s PJ _).mono ?_;rw[<-HZ.o];rintro e w' ⟨rfl,rfl⟩)
       | (go_at_call 79;refine(fR _ _).mono ?_;rintro e w' ⟨rfl,rfl⟩)
       | (go_at_call 44
          refine(eO G.cur 2 b9).mono ?_;rintro e w5 ⟨⟨y,rfl,O,xM⟩,hc,hg⟩;have G:=G.call hc hg;have R:=G.row.cell (k:=s) (by rw[yD.o];exact hlt);have JE:=G.row.free s;have hwy:IntKind.i64.wrap (y*3)=y*3:=by rw[IntKind.wrap_i64];omega
          have hwy3:IntKind.i64.wrap (3+y*3)=3+y*3:=by rw[IntKind.wrap_i64];omega
          clear hc hg)
       | fail)
    all_goals
     go_wp2_with fail
     go_roundg (g1-1)
     case measure=>have:=HS.o;omega
     case rel =>
      refine⟨s+1,_,ae (j4 HS.o),by go_num,ae b9,ae ?_,ae ?_,ae ?_,ae (G.put s _)⟩
      ·rw[List.length_set];exact yD.o
      ·refine W.o.set s ?_ ?_<;>(first|omega|(rw[IntKind.wrap_i64];omega)|exact(dS _ _ O xM).1|exact(dS _ _ O xM).2|(have zN:=dS (decide ((n:Int)<I*2)) y O xM;rw[IntKind.wrap_i64];omega)|(have zN:=dS (decide ((n:Int)<I*2)) y O xM;unfold wrap64;omega))
      ·rw[List.getElem?_set_ne (j4 JL.o)];exact Z.o
  ·have IP:s=cN n:=by have:=HS.o;omega
   subst IP;have c0:=HD.o.c0;have u:=HD.o.GV;have r0:J.cell? ⟨w.heap.size,0,none⟩=some (.int .i64 0):=by rw[cell_of_row J w.heap.size 0 _ _ _ u];rfl
   have r1:J.cell? ⟨w.heap.size,1,none⟩=some (.slice none 0 0):=by rw[cell_of_row J w.heap.size 1 _ _ _ u];rfl
   have rf:∀o,J.frozen? ⟨w.heap.size,o,none⟩=false:=fun o=>frozen_of_row J w.heap.size o _ _ u
   have rf0:=rf 0;have rf1:=rf 1;have FW:=ae (mU (w:=w) HD.o.cur u (by intro y;simp) HD.o.apart.2.2.1 HD.o.grown (Nat.le_refl _) (n:Int) (.slice (some ⟨vb,0,none⟩) (cN n) (cN n)) (by intro y;simp));have HZ0:=ae (show((J.setCell ⟨w.heap.size,0,none⟩ (.int .i64 (n:Int))).setCell ⟨w.heap.size,1,none⟩ (.slice (some ⟨vb,0,none⟩) (cN n) (cN n))).cell? ⟨w.heap.size,0,none⟩=some (.int .i64 (n:Int))by rw[cell_of_row _ _ 0 _ _ _ FW.o.2.2.2];rfl);have HZ1:=ae (show((J.setCell ⟨w.heap.size,0,none⟩ (.int .i64 (n:Int))).setCell ⟨w.heap.size,1,none⟩ (.slice (some ⟨vb,0,none⟩) (cN n) (cN n))).cell? ⟨w.heap.size,1,none⟩=some (.slice (some ⟨vb,0,none⟩) (cN n) (cN n))by rw[cell_of_row _ _ 1 _ _ _ FW.o.2.2.2];rfl);clear u rf;go_wp2_with fail;refine bodyPost_ret (v:=.agg #[.int .i64 (n:Int),.slice (some ⟨vb,0,none⟩) (cN n) (cN n)]) (by simp[results,Tryz.results39,go_sem,HZ0.o,HZ1.o]) rfl ⟨⟨n,vb,V,rfl,Bj,Oh,yD.o,W.o,Z.o,?_,HD.o.apart.2.2.2.2.2.2.1,HD.o.apart.1⟩,FW.o.1,FW.o.2.1⟩;exact(FW.o.2.2.1 vb (j4 HD.o.apart)).trans HD.o.row
theorem o8.made(w:World)(base:Nat)(hb:base<=w.heap.size):o8 (w.alloc (.cells #[] 3)) base (.slice (some ⟨w.heap.size,0,none⟩) 0 0) [] :=
 World.ownsRow_lit w #[] 0 hb b9 rfl
theorem mz{a:j8}{cap:Nat}{l:j9}(h:Ints w a n cap l)(hb:n<=1099511627776):
 Calls Tryz.prog 56 #[.slice a n cap] w fun e w'=>∃v,e=.returned v/\o8 w' w.heap.size v l/\Ext w w':=by
 have heq:∀w':World,(binOp .eql 24 (.slice a n cap) (.slice none 0 0)).run Tryz.prog w'=.ok (.bool a.isNone) w':=fun w'=>Lib.run_eql_slice_nil w' _ _ a n cap 0 0 Tryz.underlying24
 have HL:=ae h.hlen;cases a with
 | none =>
   have hl:l=[]:=by
    have:¬0<n:=fun hn=>by obtain⟨b,off,e,_⟩:=h.cell 0 hn;cases e
    exact List.eq_nil_of_length_eq_zero (j4 HL.o)
   simp only[Option.isNone_none]at heq;go_enter Tryz.func56,Tryz.ntmps56
   go_wp2
   go_ret;exact⟨_,rfl,by rw[hl];exact o8.nil w _,Ext.refl _⟩
 | some ad =>
   simp only[Option.isNone_some]at heq;have HI:=ae (h.alloc (.cells #[] 3));have HO:=ae (o8.made w w.heap.size (Nat.le_refl _));clear h;go_enter Tryz.func56,Tryz.ntmps56
   go_wp2_with (first|(at_builtin;refine bm rfl _ _ rfl w.heap.size _ _ rfl HO.o _ n _ l rfl HI.o (by simpa using hb) e7 ?_;intro v' w1 ho hg l7));go_ret;exact⟨_,rfl,ho,al (Ext.alloc _ _) hg (fun k hk=>Nat.le_of_eq (Option.some.inj (show some w.heap.size=some k from hk)))⟩
section
variable{w0 w:World}{cb:Nat}{a':j8}{n' c':Nat}{C:j9}{base:Nat}{a:j8}{n cap:Nat}
end
theorem Ints.Ad(w:World)(x:Int)(t:TypeId)(n:Nat)(hn:n=w.heap.size):Ints (w.alloc (.cells #[.int .i64 x] t)) (some ⟨n,0,none⟩) 1 1 [x]:=by
 subst hn;exact Ints.one w x t
theorem o8.yG(w:World)(base n:Nat)(hn:n=w.heap.size)(hb:base<=w.heap.size):o8 (w.alloc (.cells #[] 3)) base (.slice (some ⟨n,0,none⟩) 0 0) []:=by
 subst hn;exact o8.made w base hb
end Go.Proofs.YtalmoolkhcgmmaaGreat
