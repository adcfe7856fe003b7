import Derived.Test.YtalmoolkhcgmmaaGreatNqAltG9
import Derived.Test.YtalmoolkhcgmmaaGreatNqAltG5
import Derived.Test.YtalmoolkhcgmmaaGreatNqAltG6
import Derived.Test.YtalmoolkhcgmmaaGreatNqAltG3
import Derived.Deep.DeepCutAuto
set_option linter.unusedVariables false
set_option linter.unusedSimpArgs false
namespace Go.Proofs.YtalmoolkhcgmmaaGreat
variable{w W:World}{x y:Int}{g n k:Nat}{f:Nat->Option (Int×Int)}{l:j6}
set_option maxHeartbeats 16000000
open Go.RowKit
def Gk(s:Int)(m:Nat):List Nat:=(List.range m).filter fun(k:Nat)=>bit s k
def AI(s:Int)(m:Nat):j9:=(Gk s m).map fun(k:Nat)=>(k:Int)
theorem fN(s:Int)(m:Nat):AI s (m+1)=AI s m++(if bit s m then [(m:Int)] else []):=by
 unfold AI Gk;cases h:bit s m<;>simp[List.range_succ,h]
theorem qT(s:Int)(m:Nat):(AI s m).length<=m:=by
 unfold AI Gk
 simpa using List.length_filter_le (fun(k:Nat)=>bit s k) (List.range m)
theorem sX(s:Int)(i:Nat)(h:i<(AI s 5).length):∃k:Nat,(AI s 5)[i]?.getD 0=(k:Int)/\k<5/\bit s k=true/\(Gk s 5)[i]?=some k:=by
 have h':i<(Gk s 5).length:=by simpa[AI]using h
 refine⟨(Gk s 5)[i],?_,?_⟩
 ·simp[AI,h']
 ·have hm:(Gk s 5)[i]∈Gk s 5:=List.getElem_mem h';have h2:=List.mem_filter.1 hm;exact⟨List.mem_range.1 h2.1,h2.2,by simp[h']⟩
theorem sb(s:Nat)(hs:s<32)(w:World):
 Calls Tryz.prog 143 #[.int .i64 (s:Int)] w fun e w'=>∃v,e=.returned v/\o8 w' w.heap.size v (AI (s:Int) 5)/\Ext w w':=by
 have xR:wJ (s:Int) 0 31=true:=by unfold wJ;simp;omega
 have HO:=ae (o8.made w w.heap.size (Nat.le_refl _));go_enter Tryz.func143,Tryz.ntmps143
 go_wp2_with (first|(go_at_call 49;refine(aK _ _ _ _).mono ?_;rintro e w' ⟨rfl,rfl⟩))
 go_loopw [9,3] (fun i o wr=>∃(k:Nat) (a1:j8) (n1 c1:Nat),k<=5/\i=.int .i64 (k:Int)/\o=.slice a1 n1 c1/\b7 (o8 wr w.heap.size (.slice a1 n1 c1) (AI (s:Int) k))/\b7 (Ext w wr)) (fun i _ _=>5-(intOf i).toNat)
 case atStart=>exact⟨0,_,_,_,Nat.zero_le _,rfl,rfl,HO,ae (Ext.alloc _ _)⟩
 case round =>
  obtain⟨k,a1,n1,c1,hk,rfl,rfl,xC,xz⟩:=hrel;have hsz:=xz.o.size;by_cases hlt:k<5
  ·have HB:=ae (iw (s:Int) k b9 b9);cases zI:bit (s:Int) k
   ·rw[zI]at HB;have HS:=ae zI;clear zI;go_wp2_with (first|(go_at_call 52;refine(gQ _ _ _ b9).mono ?_;rw[HB.o];rintro e w3 ⟨rfl,rfl⟩))
    go_roundw
    case rel=>exact⟨k+1,a1,n1,c1,by omega,by go_num,rfl,ae (by rw[fN,HS.o];simpa using xC.o),xz⟩
    case measure=>simp[intOf];omega
   ·rw[zI]at HB;have HS:=ae zI;clear zI
    go_wp2_with (first
     | (go_at_call 52;refine(gQ _ _ _ b9).mono ?_;rw[HB.o];rintro e w3 ⟨rfl,rfl⟩)
     | (at_builtin;refine bm rfl _ _ rfl w.heap.size (.slice a1 n1 c1) _ rfl (xC.o.ext (Ext.alloc _ _)) _ 1 _ [(k:Int)] rfl (Ints.one _ _ _) (j4 (qT (s:Int) k)) (by simp;omega) ?_;intro v2 w3 ho hg l7;obtain⟨a2,n2,c2,rfl,Fa⟩:=ho.var;have I:=ae ho;have G:=ae hg;clear ho hg l7))
    go_roundw
    case rel =>
     refine⟨k+1,a2,n2,c2,by omega,by go_num,rfl,ae ?_,ae ?_⟩
     ·rw[fN,HS.o];exact I.o
     ·exact al (xz.o.trans (Ext.alloc _ _)) G.o (fun j hj=>(xC.o.lt j hj).1)
    case measure=>simp[intOf];omega
  ·have J:k=5:=by omega
   subst J
   go_wp2
   go_ret;exact⟨_,rfl,xC.o,xz.o⟩
set_option maxRecDepth 100000
theorem xX{a b c:Obj}(hx:Ext (((w.alloc a).alloc b).alloc c) W):W.heap[w.heap.size]?=some a/\W.heap[w.heap.size+1]?=some b/\W.heap[w.heap.size+1+1]?=some c :=
 ⟨(hx.block _ (by simp;omega)).trans (by rw[bX _ _ _ (by simp;omega),bX _ _ _ e7];exact ak _ _ _ rfl),
  (hx.block _ e7).trans (by rw[bX _ _ _ e7];exact ak _ _ _ e7),(hx.block _ e7).trans (ak _ _ _ e7)⟩
theorem zO{a b:Obj}(hx:Ext ((w.alloc a).alloc b) W):W.heap[w.heap.size]?=some a/\W.heap[w.heap.size+1]?=some b :=
 ⟨(hx.block _ (by simp;omega)).trans (by rw[bX _ _ _ e7];exact ak _ _ _ rfl),(hx.block _ e7).trans (ak _ _ _ e7)⟩
theorem ah{b:Nat}{t:TypeId}(h:w.heap[b]?=some (.cells #[.int .i64 x,.int .i64 y] t (0,0))):w.cell? ⟨b,0,none⟩=some (.int .i64 x)/\w.cell? ⟨b,1,none⟩=some (.int .i64 y)/\∀o,w.frozen? ⟨b,o,none⟩=false :=
 ⟨by rw[cell_of_row _ _ _ _ _ _ h];rfl,by rw[cell_of_row _ _ _ _ _ _ h];rfl,fun o=>frozen_of_row _ _ _ _ _ h⟩
theorem de(h:o5 (x,y)=true):-1000000000<=x/\x<=1000000000/\-1000000000<=y/\y<=1000000000:=by have:=aQ h;simp only at this;omega
theorem dw(h:-1000000000<=x/\x<=1000000000)(h':-1000000000<=y/\y<=1000000000):xr (x*y):=gY h.1 h.2 h'.1 h'.2
theorem lK(x y u v:Int)(w:World):
 Calls Tryz.prog 144 #[xO x y,xO u v] w fun e w'=>e=.returned (BA (xP (x,y) (u,v)))/\Ext w w':=by
 have HX:=ae (show Ext w (((w.alloc (.cells #[.int .i64 x,.int .i64 y] 46)).alloc (.cells #[.int .i64 u,.int .i64 v] 46)).alloc (.cells #[.int .i64 0,.int .i64 0] 46))from((Ext.alloc _ _).trans (Ext.alloc _ _)).trans (Ext.alloc _ _));cases ha:o5 (x,y)
 ·have HA:=ae ha;have HR:=ae (show xP (x,y) (u,v)=((0,0),false)by simp[xP,ha]);clear ha;go_enter Tryz.func144,Tryz.ntmps144
  go_wp2_with fail;refine(az x y _).mono ?_;rw[HA.o];rintro e w1 ⟨rfl,hx⟩;obtain⟨J,I,G⟩:=xX hx;obtain⟨a0,a1,O⟩:=ah J;obtain⟨R,b1,fb⟩:=ah I;obtain⟨r0,r1,K⟩:=ah G;have X1:=ae hx;clear hx J I G
  go_wp2
  rw[HR.o];refine bodyPost_ret (v:=.tuple #[.agg #[.int .i64 0,.int .i64 0],.bool false]) (by simp[results,Tryz.results144,go_sem,r0,r1]) rfl ⟨rfl,?_⟩;exact((HX.o.trans X1.o).setCell (by simp;omega) _).setCell (by simp;omega) _
 cases hb:o5 (u,v)
 ·have HA:=ae ha;have HB:=ae hb;have HR:=ae (show xP (x,y) (u,v)=((0,0),false)by simp[xP,hb]);clear ha hb;go_enter Tryz.func144,Tryz.ntmps144
  go_wp2_with fail;refine(az x y _).mono ?_;rw[HA.o];rintro e w1 ⟨rfl,hx⟩;obtain⟨J,I,G⟩:=xX hx;obtain⟨a0,a1,O⟩:=ah J;obtain⟨R,b1,fb⟩:=ah I;obtain⟨r0,r1,K⟩:=ah G;have X1:=ae hx;clear hx J I G;go_wp2_with fail;refine(az u v _).mono ?_;rw[HB.o];rintro e w2 ⟨rfl,hx⟩;clear a0 a1 O R b1 fb r0 r1 K;have X2:=ae (X1.o.trans hx);obtain⟨J,I,G⟩:=xX X2.o;obtain⟨a0,a1,O⟩:=ah J;obtain⟨R,b1,fb⟩:=ah I;obtain⟨r0,r1,K⟩:=ah G;clear hx J I G
  go_wp2
  rw[HR.o];refine bodyPost_ret (v:=.tuple #[.agg #[.int .i64 0,.int .i64 0],.bool false]) (by simp[results,Tryz.results144,go_sem,r0,r1]) rfl ⟨rfl,?_⟩;exact((HX.o.trans X2.o).setCell (by simp;omega) _).setCell (by simp;omega) _
 have HA:=ae ha;have HB:=ae hb;obtain⟨x1,x2,y1,y2⟩:=de ha;obtain⟨u1,u2,v1,v2⟩:=de hb;have q1:xr (x*v):=dw b9 b9;obtain⟨e1,g1⟩:=bz q1;have q2:xr (u*y):=dw b9 b9;obtain⟨e2,g2⟩:=bz q2;have Z:xr (y*v):=dw b9 b9;obtain⟨e3,g3⟩:=bz Z;have e4:IntKind.i64.wrap (x*v+u*y)=x*v+u*y:=by rw[IntKind.wrap_i64];unfold xr at *;omega
 have g4:wrap64 (x*v+u*y)=x*v+u*y:=by unfold wrap64;unfold xr at *;omega
 obtain⟨p,q,ok,U⟩:∃p q ok,aL (x*v+u*y) (y*v)=((p,q),ok):=⟨_,_,_,rfl⟩;have yt:=ae U;have HR:=ae (show xP (x,y) (u,v)=((p,q),ok)by simp[xP,ha,hb,U]);clear ha hb U
 ·go_enter Tryz.func144,Tryz.ntmps144
  go_wp2_with fail;refine(az x y _).mono ?_;rw[HA.o];rintro e w1 ⟨rfl,hx⟩;obtain⟨J,I,G⟩:=xX hx;obtain⟨a0,a1,O⟩:=ah J;obtain⟨R,b1,fb⟩:=ah I;obtain⟨r0,r1,K⟩:=ah G;have X1:=ae hx;clear hx J I G;go_wp2_with fail;refine(az u v _).mono ?_;rw[HB.o];rintro e w2 ⟨rfl,hx⟩;clear a0 a1 O R b1 fb r0 r1 K;have X2:=ae (X1.o.trans hx);obtain⟨J,I,G⟩:=xX X2.o;obtain⟨a0,a1,O⟩:=ah J;obtain⟨R,b1,fb⟩:=ah I;obtain⟨r0,r1,K⟩:=ah G;clear hx J I G;go_wp2_with fail;refine(kK _ _ _).mono ?_;rw[yt.o];rintro e w3 ⟨rfl,hx⟩;clear a0 a1 O R b1 fb r0 r1 K;have X3:=ae (X2.o.trans hx);obtain⟨J,I,G⟩:=xX X3.o;obtain⟨a0,a1,O⟩:=ah J;obtain⟨R,b1,fb⟩:=ah I;obtain⟨r0,r1,K⟩:=ah G;clear hx J I G
  go_wp2
  rw[HR.o];refine bodyPost_ret (v:=.tuple #[.agg #[.int .i64 p,.int .i64 q],.bool ok]) (by simp[results,Tryz.results144,go_sem,r0,r1]) rfl ⟨rfl,?_⟩;exact((HX.o.trans X3.o).setCell (by simp;omega) _).setCell (by simp;omega) _
theorem jP(x y u v:Int)(w:World):
 Calls Tryz.prog 123 #[xO x y,xO u v] w fun e w'=>e=.returned (BA (xP (x,y) (u,v)))/\Ext w w':=by
 have HX:=ae (show Ext w (((w.alloc (.cells #[.int .i64 x,.int .i64 y] 46)).alloc (.cells #[.int .i64 u,.int .i64 v] 46)).alloc (.cells #[.int .i64 0,.int .i64 0] 46))from((Ext.alloc _ _).trans (Ext.alloc _ _)).trans (Ext.alloc _ _));cases ha:o5 (x,y)
 ·have HA:=ae ha;have HR:=ae (show xP (x,y) (u,v)=((0,0),false)by simp[xP,ha]);clear ha;go_enter Tryz.func123,Tryz.ntmps123
  go_wp2_with fail;refine(aO x y _).mono ?_;rw[HA.o];rintro e w1 ⟨rfl,hx⟩;obtain⟨J,I,G⟩:=xX hx;obtain⟨a0,a1,O⟩:=ah J;obtain⟨R,b1,fb⟩:=ah I;obtain⟨r0,r1,K⟩:=ah G;have X1:=ae hx;clear hx J I G
  go_wp2
  rw[HR.o];refine bodyPost_ret (v:=.tuple #[.agg #[.int .i64 0,.int .i64 0],.bool false]) (by simp[results,Tryz.results123,go_sem,r0,r1]) rfl ⟨rfl,?_⟩;exact((HX.o.trans X1.o).setCell (by simp;omega) _).setCell (by simp;omega) _
 cases hb:o5 (u,v)
 ·have HA:=ae ha;have HB:=ae hb;have HR:=ae (show xP (x,y) (u,v)=((0,0),false)by simp[xP,hb]);clear ha hb;go_enter Tryz.func123,Tryz.ntmps123
  go_wp2_with fail;refine(aO x y _).mono ?_;rw[HA.o];rintro e w1 ⟨rfl,hx⟩;obtain⟨J,I,G⟩:=xX hx;obtain⟨a0,a1,O⟩:=ah J;obtain⟨R,b1,fb⟩:=ah I;obtain⟨r0,r1,K⟩:=ah G;have X1:=ae hx;clear hx J I G;go_wp2_with fail;refine(aO u v _).mono ?_;rw[HB.o];rintro e w2 ⟨rfl,hx⟩;clear a0 a1 O R b1 fb r0 r1 K;have X2:=ae (X1.o.trans hx);obtain⟨J,I,G⟩:=xX X2.o;obtain⟨a0,a1,O⟩:=ah J;obtain⟨R,b1,fb⟩:=ah I;obtain⟨r0,r1,K⟩:=ah G;clear hx J I G
  go_wp2
  rw[HR.o];refine bodyPost_ret (v:=.tuple #[.agg #[.int .i64 0,.int .i64 0],.bool false]) (by simp[results,Tryz.results123,go_sem,r0,r1]) rfl ⟨rfl,?_⟩;exact((HX.o.trans X2.o).setCell (by simp;omega) _).setCell (by simp;omega) _
 have HA:=ae ha;have HB:=ae hb;obtain⟨x1,x2,y1,y2⟩:=de ha;obtain⟨u1,u2,v1,v2⟩:=de hb;have q1:xr (x*v):=dw b9 b9;obtain⟨e1,g1⟩:=bz q1;have q2:xr (u*y):=dw b9 b9;obtain⟨e2,g2⟩:=bz q2;have Z:xr (y*v):=dw b9 b9;obtain⟨e3,g3⟩:=bz Z;have e4:IntKind.i64.wrap (x*v+u*y)=x*v+u*y:=by rw[IntKind.wrap_i64];unfold xr at *;omega
 have g4:wrap64 (x*v+u*y)=x*v+u*y:=by unfold wrap64;unfold xr at *;omega
 obtain⟨p,q,ok,U⟩:∃p q ok,aL (x*v+u*y) (y*v)=((p,q),ok):=⟨_,_,_,rfl⟩;have yt:=ae U;have HR:=ae (show xP (x,y) (u,v)=((p,q),ok)by simp[xP,ha,hb,U]);clear ha hb U
 ·go_enter Tryz.func123,Tryz.ntmps123
  go_wp2_with fail;refine(aO x y _).mono ?_;rw[HA.o];rintro e w1 ⟨rfl,hx⟩;obtain⟨J,I,G⟩:=xX hx;obtain⟨a0,a1,O⟩:=ah J;obtain⟨R,b1,fb⟩:=ah I;obtain⟨r0,r1,K⟩:=ah G;have X1:=ae hx;clear hx J I G;go_wp2_with fail;refine(aO u v _).mono ?_;rw[HB.o];rintro e w2 ⟨rfl,hx⟩;clear a0 a1 O R b1 fb r0 r1 K;have X2:=ae (X1.o.trans hx);obtain⟨J,I,G⟩:=xX X2.o;obtain⟨a0,a1,O⟩:=ah J;obtain⟨R,b1,fb⟩:=ah I;obtain⟨r0,r1,K⟩:=ah G;clear hx J I G;go_wp2_with fail;refine(jt _ _ _).mono ?_;rw[yt.o];rintro e w3 ⟨rfl,hx⟩;clear a0 a1 O R b1 fb r0 r1 K;have X3:=ae (X2.o.trans hx);obtain⟨J,I,G⟩:=xX X3.o;obtain⟨a0,a1,O⟩:=ah J;obtain⟨R,b1,fb⟩:=ah I;obtain⟨r0,r1,K⟩:=ah G;clear hx J I G
  go_wp2
  rw[HR.o];refine bodyPost_ret (v:=.tuple #[.agg #[.int .i64 p,.int .i64 q],.bool ok]) (by simp[results,Tryz.results123,go_sem,r0,r1]) rfl ⟨rfl,?_⟩;exact((HX.o.trans X3.o).setCell (by simp;omega) _).setCell (by simp;omega) _
theorem jB(x y u v:Int)(w:World):
 Calls Tryz.prog 58 #[xO x y,xO u v] w fun e w'=>e=.returned (BA (xy (x,y) (u,v)))/\Ext w w':=by
 have HX:=ae (show Ext w (((w.alloc (.cells #[.int .i64 x,.int .i64 y] 46)).alloc (.cells #[.int .i64 u,.int .i64 v] 46)).alloc (.cells #[.int .i64 0,.int .i64 0] 46))from((Ext.alloc _ _).trans (Ext.alloc _ _)).trans (Ext.alloc _ _));cases ha:o5 (x,y)
 ·have HA:=ae ha;have HR:=ae (show xy (x,y) (u,v)=((0,0),false)by simp[xy,ha]);clear ha;go_enter Tryz.func58,Tryz.ntmps58
  go_wp2_with fail;refine(az x y _).mono ?_;rw[HA.o];rintro e w1 ⟨rfl,hx⟩;obtain⟨J,I,G⟩:=xX hx;obtain⟨a0,a1,O⟩:=ah J;obtain⟨R,b1,fb⟩:=ah I;obtain⟨r0,r1,K⟩:=ah G;have X1:=ae hx;clear hx J I G
  go_wp2
  rw[HR.o];refine bodyPost_ret (v:=.tuple #[.agg #[.int .i64 0,.int .i64 0],.bool false]) (by simp[results,Tryz.results58,go_sem,r0,r1]) rfl ⟨rfl,?_⟩;exact((HX.o.trans X1.o).setCell (by simp;omega) _).setCell (by simp;omega) _
 cases hb:o5 (u,v)
 ·have HA:=ae ha;have HB:=ae hb;have HR:=ae (show xy (x,y) (u,v)=((0,0),false)by simp[xy,hb]);clear ha hb;go_enter Tryz.func58,Tryz.ntmps58
  go_wp2_with fail;refine(az x y _).mono ?_;rw[HA.o];rintro e w1 ⟨rfl,hx⟩;obtain⟨J,I,G⟩:=xX hx;obtain⟨a0,a1,O⟩:=ah J;obtain⟨R,b1,fb⟩:=ah I;obtain⟨r0,r1,K⟩:=ah G;have X1:=ae hx;clear hx J I G;go_wp2_with fail;refine(az u v _).mono ?_;rw[HB.o];rintro e w2 ⟨rfl,hx⟩;clear a0 a1 O R b1 fb r0 r1 K;have X2:=ae (X1.o.trans hx);obtain⟨J,I,G⟩:=xX X2.o;obtain⟨a0,a1,O⟩:=ah J;obtain⟨R,b1,fb⟩:=ah I;obtain⟨r0,r1,K⟩:=ah G;clear hx J I G
  go_wp2
  rw[HR.o];refine bodyPost_ret (v:=.tuple #[.agg #[.int .i64 0,.int .i64 0],.bool false]) (by simp[results,Tryz.results58,go_sem,r0,r1]) rfl ⟨rfl,?_⟩;exact((HX.o.trans X2.o).setCell (by simp;omega) _).setCell (by simp;omega) _
 have HA:=ae ha;have HB:=ae hb;obtain⟨x1,x2,y1,y2⟩:=de ha;obtain⟨u1,u2,v1,v2⟩:=de hb;have q1:xr (x*v):=dw b9 b9;obtain⟨e1,g1⟩:=bz q1;have q2:xr (u*y):=dw b9 b9;obtain⟨e2,g2⟩:=bz q2;have Z:xr (y*v):=dw b9 b9;obtain⟨e3,g3⟩:=bz Z;have e4:IntKind.i64.wrap (x*v-u*y)=x*v-u*y:=by rw[IntKind.wrap_i64];unfold xr at *;omega
 have g4:wrap64 (x*v-u*y)=x*v-u*y:=by unfold wrap64;unfold xr at *;omega
 obtain⟨p,q,ok,U⟩:∃p q ok,aL (x*v-u*y) (y*v)=((p,q),ok):=⟨_,_,_,rfl⟩;have yt:=ae U;have HR:=ae (show xy (x,y) (u,v)=((p,q),ok)by simp[xy,ha,hb,U]);clear ha hb U
 ·go_enter Tryz.func58,Tryz.ntmps58
  go_wp2_with fail;refine(az x y _).mono ?_;rw[HA.o];rintro e w1 ⟨rfl,hx⟩;obtain⟨J,I,G⟩:=xX hx;obtain⟨a0,a1,O⟩:=ah J;obtain⟨R,b1,fb⟩:=ah I;obtain⟨r0,r1,K⟩:=ah G;have X1:=ae hx;clear hx J I G;go_wp2_with fail;refine(az u v _).mono ?_;rw[HB.o];rintro e w2 ⟨rfl,hx⟩;clear a0 a1 O R b1 fb r0 r1 K;have X2:=ae (X1.o.trans hx);obtain⟨J,I,G⟩:=xX X2.o;obtain⟨a0,a1,O⟩:=ah J;obtain⟨R,b1,fb⟩:=ah I;obtain⟨r0,r1,K⟩:=ah G;clear hx J I G;go_wp2_with fail;refine(kK _ _ _).mono ?_;rw[yt.o];rintro e w3 ⟨rfl,hx⟩;clear a0 a1 O R b1 fb r0 r1 K;have X3:=ae (X2.o.trans hx);obtain⟨J,I,G⟩:=xX X3.o;obtain⟨a0,a1,O⟩:=ah J;obtain⟨R,b1,fb⟩:=ah I;obtain⟨r0,r1,K⟩:=ah G;clear hx J I G
  go_wp2
  rw[HR.o];refine bodyPost_ret (v:=.tuple #[.agg #[.int .i64 p,.int .i64 q],.bool ok]) (by simp[results,Tryz.results58,go_sem,r0,r1]) rfl ⟨rfl,?_⟩;exact((HX.o.trans X3.o).setCell (by simp;omega) _).setCell (by simp;omega) _
theorem qA(x y u v:Int)(w:World):
 Calls Tryz.prog 153 #[xO x y,xO u v] w fun e w'=>e=.returned (BA (mulR (x,y) (u,v)))/\Ext w w':=by
 have HX:=ae (show Ext w (((w.alloc (.cells #[.int .i64 x,.int .i64 y] 46)).alloc (.cells #[.int .i64 u,.int .i64 v] 46)).alloc (.cells #[.int .i64 0,.int .i64 0] 46))from((Ext.alloc _ _).trans (Ext.alloc _ _)).trans (Ext.alloc _ _));cases ha:o5 (x,y)
 ·have HA:=ae ha;have HR:=ae (show mulR (x,y) (u,v)=((0,0),false)by simp[mulR,ha]);clear ha;go_enter Tryz.func153,Tryz.ntmps153
  go_wp2_with fail;refine(az x y _).mono ?_;rw[HA.o];rintro e w1 ⟨rfl,hx⟩;obtain⟨J,I,G⟩:=xX hx;obtain⟨a0,a1,O⟩:=ah J;obtain⟨R,b1,fb⟩:=ah I;obtain⟨r0,r1,K⟩:=ah G;have X1:=ae hx;clear hx J I G
  go_wp2
  rw[HR.o];refine bodyPost_ret (v:=.tuple #[.agg #[.int .i64 0,.int .i64 0],.bool false]) (by simp[results,Tryz.results153,go_sem,r0,r1]) rfl ⟨rfl,?_⟩;exact((HX.o.trans X1.o).setCell (by simp;omega) _).setCell (by simp;omega) _
 cases hb:o5 (u,v)
 ·have HA:=ae ha;have HB:=ae hb;have HR:=ae (show mulR (x,y) (u,v)=((0,0),false)by simp[mulR,hb]);clear ha hb;go_enter Tryz.func153,Tryz.ntmps153
  go_wp2_with fail;refine(az x y _).mono ?_;rw[HA.o];rintro e w1 ⟨rfl,hx⟩;obtain⟨J,I,G⟩:=xX hx;obtain⟨a0,a1,O⟩:=ah J;obtain⟨R,b1,fb⟩:=ah I;obtain⟨r0,r1,K⟩:=ah G;have X1:=ae hx;clear hx J I G;go_wp2_with fail;refine(az u v _).mono ?_;rw[HB.o];rintro e w2 ⟨rfl,hx⟩;clear a0 a1 O R b1 fb r0 r1 K;have X2:=ae (X1.o.trans hx);obtain⟨J,I,G⟩:=xX X2.o;obtain⟨a0,a1,O⟩:=ah J;obtain⟨R,b1,fb⟩:=ah I;obtain⟨r0,r1,K⟩:=ah G;clear hx J I G
  go_wp2
  rw[HR.o];refine bodyPost_ret (v:=.tuple #[.agg #[.int .i64 0,.int .i64 0],.bool false]) (by simp[results,Tryz.results153,go_sem,r0,r1]) rfl ⟨rfl,?_⟩;exact((HX.o.trans X2.o).setCell (by simp;omega) _).setCell (by simp;omega) _
 have HA:=ae ha;have HB:=ae hb;obtain⟨x1,x2,y1,y2⟩:=de ha;obtain⟨u1,u2,v1,v2⟩:=de hb;have q1:xr (x*u):=dw b9 b9;obtain⟨e1,g1⟩:=bz q1;have Z:xr (y*v):=dw b9 b9;obtain⟨e2,g2⟩:=bz Z;obtain⟨p,q,ok,U⟩:∃p q ok,aL (x*u) (y*v)=((p,q),ok):=⟨_,_,_,rfl⟩;have yt:=ae U;have HR:=ae (show mulR (x,y) (u,v)=((p,q),ok)by simp[mulR,ha,hb,U]);clear ha hb U
 ·go_enter Tryz.func153,Tryz.ntmps153
  go_wp2_with fail;refine(az x y _).mono ?_;rw[HA.o];rintro e w1 ⟨rfl,hx⟩;obtain⟨J,I,G⟩:=xX hx;obtain⟨a0,a1,O⟩:=ah J;obtain⟨R,b1,fb⟩:=ah I;obtain⟨r0,r1,K⟩:=ah G;have X1:=ae hx;clear hx J I G;go_wp2_with fail;refine(az u v _).mono ?_;rw[HB.o];rintro e w2 ⟨rfl,hx⟩;clear a0 a1 O R b1 fb r0 r1 K;have X2:=ae (X1.o.trans hx);obtain⟨J,I,G⟩:=xX X2.o;obtain⟨a0,a1,O⟩:=ah J;obtain⟨R,b1,fb⟩:=ah I;obtain⟨r0,r1,K⟩:=ah G;clear hx J I G;go_wp2_with fail;refine(kK _ _ _).mono ?_;rw[yt.o];rintro e w3 ⟨rfl,hx⟩;clear a0 a1 O R b1 fb r0 r1 K;have X3:=ae (X2.o.trans hx);obtain⟨J,I,G⟩:=xX X3.o;obtain⟨a0,a1,O⟩:=ah J;obtain⟨R,b1,fb⟩:=ah I;obtain⟨r0,r1,K⟩:=ah G;clear hx J I G
  go_wp2
  rw[HR.o];refine bodyPost_ret (v:=.tuple #[.agg #[.int .i64 p,.int .i64 q],.bool ok]) (by simp[results,Tryz.results153,go_sem,r0,r1]) rfl ⟨rfl,?_⟩;exact((HX.o.trans X3.o).setCell (by simp;omega) _).setCell (by simp;omega) _
theorem rt(x y u v:Int)(w:World):
 Calls Tryz.prog 163 #[xO x y,xO u v] w fun e w'=>e=.returned (BA (mulR (x,y) (u,v)))/\Ext w w':=by
 have HX:=ae (show Ext w (((w.alloc (.cells #[.int .i64 x,.int .i64 y] 46)).alloc (.cells #[.int .i64 u,.int .i64 v] 46)).alloc (.cells #[.int .i64 0,.int .i64 0] 46))from((Ext.alloc _ _).trans (Ext.alloc _ _)).trans (Ext.alloc _ _));cases ha:o5 (x,y)
 ·have HA:=ae ha;have HR:=ae (show mulR (x,y) (u,v)=((0,0),false)by simp[mulR,ha]);clear ha;go_enter Tryz.func163,Tryz.ntmps163
  go_wp2_with fail;refine(aO x y _).mono ?_;rw[HA.o];rintro e w1 ⟨rfl,hx⟩;obtain⟨J,I,G⟩:=xX hx;obtain⟨a0,a1,O⟩:=ah J;obtain⟨R,b1,fb⟩:=ah I;obtain⟨r0,r1,K⟩:=ah G;have X1:=ae hx;clear hx J I G
  go_wp2
  rw[HR.o];refine bodyPost_ret (v:=.tuple #[.agg #[.int .i64 0,.int .i64 0],.bool false]) (by simp[results,Tryz.results163,go_sem,r0,r1]) rfl ⟨rfl,?_⟩;exact((HX.o.trans X1.o).setCell (by simp;omega) _).setCell (by simp;omega) _
 cases hb:o5 (u,v)
 ·have HA:=ae ha;have HB:=ae hb;have HR:=ae (show mulR (x,y) (u,v)=((0,0),false)by simp[mulR,hb]);clear ha hb;go_enter Tryz.func163,Tryz.ntmps163
  go_wp2_with fail;refine(aO x y _).mono ?_;rw[HA.o];rintro e w1 ⟨rfl,hx⟩;obtain⟨J,I,G⟩:=xX hx;obtain⟨a0,a1,O⟩:=ah J;obtain⟨R,b1,fb⟩:=ah I;obtain⟨r0,r1,K⟩:=ah G;have X1:=ae hx;clear hx J I G;go_wp2_with fail;refine(aO u v _).mono ?_;rw[HB.o];rintro e w2 ⟨rfl,hx⟩;clear a0 a1 O R b1 fb r0 r1 K;have X2:=ae (X1.o.trans hx);obtain⟨J,I,G⟩:=xX X2.o;obtain⟨a0,a1,O⟩:=ah J;obtain⟨R,b1,fb⟩:=ah I;obtain⟨r0,r1,K⟩:=ah G;clear hx J I G
  go_wp2
  rw[HR.o];refine bodyPost_ret (v:=.tuple #[.agg #[.int .i64 0,.int .i64 0],.bool false]) (by simp[results,Tryz.results163,go_sem,r0,r1]) rfl ⟨rfl,?_⟩;exact((HX.o.trans X2.o).setCell (by simp;omega) _).setCell (by simp;omega) _
 have HA:=ae ha;have HB:=ae hb;obtain⟨x1,x2,y1,y2⟩:=de ha;obtain⟨u1,u2,v1,v2⟩:=de hb;have q1:xr (x*u):=dw b9 b9;obtain⟨e1,g1⟩:=bz q1;have Z:xr (y*v):=dw b9 b9;obtain⟨e2,g2⟩:=bz Z;obtain⟨p,q,ok,U⟩:∃p q ok,aL (x*u) (y*v)=((p,q),ok):=⟨_,_,_,rfl⟩;have yt:=ae U;have HR:=ae (show mulR (x,y) (u,v)=((p,q),ok)by simp[mulR,ha,hb,U]);clear ha hb U
 ·go_enter Tryz.func163,Tryz.ntmps163
  go_wp2_with fail;refine(aO x y _).mono ?_;rw[HA.o];rintro e w1 ⟨rfl,hx⟩;obtain⟨J,I,G⟩:=xX hx;obtain⟨a0,a1,O⟩:=ah J;obtain⟨R,b1,fb⟩:=ah I;obtain⟨r0,r1,K⟩:=ah G;have X1:=ae hx;clear hx J I G;go_wp2_with fail;refine(aO u v _).mono ?_;rw[HB.o];rintro e w2 ⟨rfl,hx⟩;clear a0 a1 O R b1 fb r0 r1 K;have X2:=ae (X1.o.trans hx);obtain⟨J,I,G⟩:=xX X2.o;obtain⟨a0,a1,O⟩:=ah J;obtain⟨R,b1,fb⟩:=ah I;obtain⟨r0,r1,K⟩:=ah G;clear hx J I G;go_wp2_with fail;refine(jt _ _ _).mono ?_;rw[yt.o];rintro e w3 ⟨rfl,hx⟩;clear a0 a1 O R b1 fb r0 r1 K;have X3:=ae (X2.o.trans hx);obtain⟨J,I,G⟩:=xX X3.o;obtain⟨a0,a1,O⟩:=ah J;obtain⟨R,b1,fb⟩:=ah I;obtain⟨r0,r1,K⟩:=ah G;clear hx J I G
  go_wp2
  rw[HR.o];refine bodyPost_ret (v:=.tuple #[.agg #[.int .i64 p,.int .i64 q],.bool ok]) (by simp[results,Tryz.results163,go_sem,r0,r1]) rfl ⟨rfl,?_⟩;exact((HX.o.trans X3.o).setCell (by simp;omega) _).setCell (by simp;omega) _
theorem qw(x y u v:Int)(w:World):
 Calls Tryz.prog 170 #[xO x y,xO u v] w fun e w'=>e=.returned (BA (yH (x,y) (u,v)))/\Ext w w':=by
 have HX:=ae (show Ext w (((w.alloc (.cells #[.int .i64 x,.int .i64 y] 46)).alloc (.cells #[.int .i64 u,.int .i64 v] 46)).alloc (.cells #[.int .i64 0,.int .i64 0] 46))from((Ext.alloc _ _).trans (Ext.alloc _ _)).trans (Ext.alloc _ _));cases ha:o5 (x,y)
 ·have HA:=ae ha;have HR:=ae (show yH (x,y) (u,v)=((0,0),false)by simp[yH,ha]);clear ha;go_enter Tryz.func170,Tryz.ntmps170
  go_wp2_with fail;refine(az x y _).mono ?_;rw[HA.o];rintro e w1 ⟨rfl,hx⟩;obtain⟨J,I,G⟩:=xX hx;obtain⟨a0,a1,O⟩:=ah J;obtain⟨R,b1,fb⟩:=ah I;obtain⟨r0,r1,K⟩:=ah G;have X1:=ae hx;clear hx J I G
  go_wp2
  rw[HR.o];refine bodyPost_ret (v:=.tuple #[.agg #[.int .i64 0,.int .i64 0],.bool false]) (by simp[results,Tryz.results170,go_sem,r0,r1]) rfl ⟨rfl,?_⟩;exact((HX.o.trans X1.o).setCell (by simp;omega) _).setCell (by simp;omega) _
 cases hb:o5 (u,v)
 ·have HA:=ae ha;have HB:=ae hb;have HR:=ae (show yH (x,y) (u,v)=((0,0),false)by simp[yH,hb]);clear ha hb;go_enter Tryz.func170,Tryz.ntmps170
  go_wp2_with fail;refine(az x y _).mono ?_;rw[HA.o];rintro e w1 ⟨rfl,hx⟩;obtain⟨J,I,G⟩:=xX hx;obtain⟨a0,a1,O⟩:=ah J;obtain⟨R,b1,fb⟩:=ah I;obtain⟨r0,r1,K⟩:=ah G;have X1:=ae hx;clear hx J I G;go_wp2_with fail;refine(az u v _).mono ?_;rw[HB.o];rintro e w2 ⟨rfl,hx⟩;clear a0 a1 O R b1 fb r0 r1 K;have X2:=ae (X1.o.trans hx);obtain⟨J,I,G⟩:=xX X2.o;obtain⟨a0,a1,O⟩:=ah J;obtain⟨R,b1,fb⟩:=ah I;obtain⟨r0,r1,K⟩:=ah G;clear hx J I G
  go_wp2
  rw[HR.o];refine bodyPost_ret (v:=.tuple #[.agg #[.int .i64 0,.int .i64 0],.bool false]) (by simp[results,Tryz.results170,go_sem,r0,r1]) rfl ⟨rfl,?_⟩;exact((HX.o.trans X2.o).setCell (by simp;omega) _).setCell (by simp;omega) _
 have HA:=ae ha;have HB:=ae hb;obtain⟨x1,x2,y1,y2⟩:=de ha;obtain⟨u1,u2,v1,v2⟩:=de hb;have q1:xr (x*v):=dw b9 b9;obtain⟨e1,g1⟩:=bz q1;have Z:xr (y*u):=dw b9 b9;obtain⟨e2,g2⟩:=bz Z;obtain⟨p,q,ok,U⟩:∃p q ok,aL (x*v) (y*u)=((p,q),ok):=⟨_,_,_,rfl⟩;have yt:=ae U;have HR:=ae (show yH (x,y) (u,v)=((p,q),ok)by simp[yH,ha,hb,U]);clear ha hb U
 ·go_enter Tryz.func170,Tryz.ntmps170
  go_wp2_with fail;refine(az x y _).mono ?_;rw[HA.o];rintro e w1 ⟨rfl,hx⟩;obtain⟨J,I,G⟩:=xX hx;obtain⟨a0,a1,O⟩:=ah J;obtain⟨R,b1,fb⟩:=ah I;obtain⟨r0,r1,K⟩:=ah G;have X1:=ae hx;clear hx J I G;go_wp2_with fail;refine(az u v _).mono ?_;rw[HB.o];rintro e w2 ⟨rfl,hx⟩;clear a0 a1 O R b1 fb r0 r1 K;have X2:=ae (X1.o.trans hx);obtain⟨J,I,G⟩:=xX X2.o;obtain⟨a0,a1,O⟩:=ah J;obtain⟨R,b1,fb⟩:=ah I;obtain⟨r0,r1,K⟩:=ah G;clear hx J I G;go_wp2_with fail;refine(kK _ _ _).mono ?_;rw[yt.o];rintro e w3 ⟨rfl,hx⟩;clear a0 a1 O R b1 fb r0 r1 K;have X3:=ae (X2.o.trans hx);obtain⟨J,I,G⟩:=xX X3.o;obtain⟨a0,a1,O⟩:=ah J;obtain⟨R,b1,fb⟩:=ah I;obtain⟨r0,r1,K⟩:=ah G;clear hx J I G
  go_wp2
  rw[HR.o];refine bodyPost_ret (v:=.tuple #[.agg #[.int .i64 p,.int .i64 q],.bool ok]) (by simp[results,Tryz.results170,go_sem,r0,r1]) rfl ⟨rfl,?_⟩;exact((HX.o.trans X3.o).setCell (by simp;omega) _).setCell (by simp;omega) _
theorem ri(x y u v:Int)(w:World):
 Calls Tryz.prog 176 #[xO x y,xO u v] w fun e w'=>e=.returned (BA (yH (x,y) (u,v)))/\Ext w w':=by
 have HX:=ae (show Ext w (((w.alloc (.cells #[.int .i64 x,.int .i64 y] 46)).alloc (.cells #[.int .i64 u,.int .i64 v] 46)).alloc (.cells #[.int .i64 0,.int .i64 0] 46))from((Ext.alloc _ _).trans (Ext.alloc _ _)).trans (Ext.alloc _ _));cases ha:o5 (x,y)
 ·have HA:=ae ha;have HR:=ae (show yH (x,y) (u,v)=((0,0),false)by simp[yH,ha]);clear ha;go_enter Tryz.func176,Tryz.ntmps176
  go_wp2_with fail;refine(aO x y _).mono ?_;rw[HA.o];rintro e w1 ⟨rfl,hx⟩;obtain⟨J,I,G⟩:=xX hx;obtain⟨a0,a1,O⟩:=ah J;obtain⟨R,b1,fb⟩:=ah I;obtain⟨r0,r1,K⟩:=ah G;have X1:=ae hx;clear hx J I G
  go_wp2
  rw[HR.o];refine bodyPost_ret (v:=.tuple #[.agg #[.int .i64 0,.int .i64 0],.bool false]) (by simp[results,Tryz.results176,go_sem,r0,r1]) rfl ⟨rfl,?_⟩;exact((HX.o.trans X1.o).setCell (by simp;omega) _).setCell (by simp;omega) _
 cases hb:o5 (u,v)
 ·have HA:=ae ha;have HB:=ae hb;have HR:=ae (show yH (x,y) (u,v)=((0,0),false)by simp[yH,hb]);clear ha hb;go_enter Tryz.func176,Tryz.ntmps176
  go_wp2_with fail;refine(aO x y _).mono ?_;rw[HA.o];rintro e w1 ⟨rfl,hx⟩;obtain⟨J,I,G⟩:=xX hx;obtain⟨a0,a1,O⟩:=ah J;obtain⟨R,b1,fb⟩:=ah I;obtain⟨r0,r1,K⟩:=ah G;have X1:=ae hx;clear hx J I G;go_wp2_with fail;refine(aO u v _).mono ?_;rw[HB.o];rintro e w2 ⟨rfl,hx⟩;clear a0 a1 O R b1 fb r0 r1 K;have X2:=ae (X1.o.trans hx);obtain⟨J,I,G⟩:=xX X2.o;obtain⟨a0,a1,O⟩:=ah J;obtain⟨R,b1,fb⟩:=ah I;obtain⟨r0,r1,K⟩:=ah G;clear hx J I G
  go_wp2
  rw[HR.o];refine bodyPost_ret (v:=.tuple #[.agg #[.int .i64 0,.int .i64 0],.bool false]) (by simp[results,Tryz.results176,go_sem,r0,r1]) rfl ⟨rfl,?_⟩;exact((HX.o.trans X2.o).setCell (by simp;omega) _).setCell (by simp;omega) _
 have HA:=ae ha;have HB:=ae hb;obtain⟨x1,x2,y1,y2⟩:=de ha;obtain⟨u1,u2,v1,v2⟩:=de hb;have q1:xr (x*v):=dw b9 b9;obtain⟨e1,g1⟩:=bz q1;have Z:xr (y*u):=dw b9 b9;obtain⟨e2,g2⟩:=bz Z;obtain⟨p,q,ok,U⟩:∃p q ok,aL (x*v) (y*u)=((p,q),ok):=⟨_,_,_,rfl⟩;have yt:=ae U;have HR:=ae (show yH (x,y) (u,v)=((p,q),ok)by simp[yH,ha,hb,U]);clear ha hb U
 ·go_enter Tryz.func176,Tryz.ntmps176
  go_wp2_with fail;refine(aO x y _).mono ?_;rw[HA.o];rintro e w1 ⟨rfl,hx⟩;obtain⟨J,I,G⟩:=xX hx;obtain⟨a0,a1,O⟩:=ah J;obtain⟨R,b1,fb⟩:=ah I;obtain⟨r0,r1,K⟩:=ah G;have X1:=ae hx;clear hx J I G;go_wp2_with fail;refine(aO u v _).mono ?_;rw[HB.o];rintro e w2 ⟨rfl,hx⟩;clear a0 a1 O R b1 fb r0 r1 K;have X2:=ae (X1.o.trans hx);obtain⟨J,I,G⟩:=xX X2.o;obtain⟨a0,a1,O⟩:=ah J;obtain⟨R,b1,fb⟩:=ah I;obtain⟨r0,r1,K⟩:=ah G;clear hx J I G;go_wp2_with fail;refine(jt _ _ _).mono ?_;rw[yt.o];rintro e w3 ⟨rfl,hx⟩;clear a0 a1 O R b1 fb r0 r1 K;have X3:=ae (X2.o.trans hx);obtain⟨J,I,G⟩:=xX X3.o;obtain⟨a0,a1,O⟩:=ah J;obtain⟨R,b1,fb⟩:=ah I;obtain⟨r0,r1,K⟩:=ah G;clear hx J I G
  go_wp2
  rw[HR.o];refine bodyPost_ret (v:=.tuple #[.agg #[.int .i64 p,.int .i64 q],.bool ok]) (by simp[results,Tryz.results176,go_sem,r0,r1]) rfl ⟨rfl,?_⟩;exact((HX.o.trans X3.o).setCell (by simp;omega) _).setCell (by simp;omega) _
theorem ix(x y u v:Int)(w:World):
 Calls Tryz.prog 98 #[xO x y,xO u v] w fun e w'=>e=.returned (.int .i64 (wU (x,y) (u,v)))/\Ext w w':=by
 have HX:=ae (show Ext w ((w.alloc (.cells #[.int .i64 x,.int .i64 y] 46)).alloc (.cells #[.int .i64 u,.int .i64 v] 46))from(Ext.alloc _ _).trans (Ext.alloc _ _));cases ha:o5 (x,y)
 ·have HA:=ae ha;have HR:=ae (show wU (x,y) (u,v)=0 by simp[wU,ha]);clear ha;go_enter Tryz.func98,Tryz.ntmps98
  go_wp2_with fail;refine(az x y _).mono ?_;rw[HA.o];rintro e w1 ⟨rfl,hx⟩;obtain⟨I,G⟩:=zO hx;obtain⟨a0,a1,J⟩:=ah I;obtain⟨K,b1,fb⟩:=ah G;have X1:=ae hx;clear hx I G
  go_wp2
  go_ret;exact⟨aU HR.o.symm,HX.o.trans X1.o⟩
 cases hb:o5 (u,v)
 ·have HA:=ae ha;have HB:=ae hb;have HR:=ae (show wU (x,y) (u,v)=0 by simp[wU,hb]);clear ha hb;go_enter Tryz.func98,Tryz.ntmps98
  go_wp2_with fail;refine(az x y _).mono ?_;rw[HA.o];rintro e w1 ⟨rfl,hx⟩;obtain⟨I,G⟩:=zO hx;obtain⟨a0,a1,J⟩:=ah I;obtain⟨K,b1,fb⟩:=ah G;have X1:=ae hx;clear hx I G;go_wp2_with fail;refine(az u v _).mono ?_;rw[HB.o];rintro e w2 ⟨rfl,hx⟩;clear a0 a1 J K b1 fb;have X2:=ae (X1.o.trans hx);obtain⟨I,G⟩:=zO X2.o;obtain⟨a0,a1,J⟩:=ah I;obtain⟨K,b1,fb⟩:=ah G;clear hx I G
  go_wp2
  go_ret;exact⟨aU HR.o.symm,HX.o.trans X2.o⟩
 have HA:=ae ha;have HB:=ae hb;obtain⟨x1,x2,y1,y2⟩:=de ha;obtain⟨u1,u2,v1,v2⟩:=de hb;have U:xr (x*v):=dw b9 b9;have R:xr (u*y):=dw b9 b9;obtain⟨e1,g1⟩:=bz U;obtain⟨e2,g2⟩:=bz R;have hR:wU (x,y) (u,v)=(if x*v<u*y then -1 else if u*y<x*v then 1 else 0):=by simp[wU,ha,hb]
 obtain⟨P,hP⟩:=b8 (x*v);obtain⟨Q,O⟩:=b8 (u*y);rw[<-hP,<-O]at hR;rw[<-hP]at e1 g1;rw[<-O]at e2 g2;have HR:=ae hR;have hP':=hP.symm;have hQ':=O.symm;clear ha hb hR U R hP O;by_cases h1:P<Q
 ·go_enter Tryz.func98,Tryz.ntmps98
  go_wp2_with fail;refine(az x y _).mono ?_;rw[HA.o];rintro e w1 ⟨rfl,hx⟩;obtain⟨I,G⟩:=zO hx;obtain⟨a0,a1,J⟩:=ah I;obtain⟨K,b1,fb⟩:=ah G;have X1:=ae hx;clear hx I G;go_wp2_with fail;refine(az u v _).mono ?_;rw[HB.o];rintro e w2 ⟨rfl,hx⟩;clear a0 a1 J K b1 fb;have X2:=ae (X1.o.trans hx);obtain⟨I,G⟩:=zO X2.o;obtain⟨a0,a1,J⟩:=ah I;obtain⟨K,b1,fb⟩:=ah G;clear hx I G
  go_wp2
  go_quiet (fail)
  go_wp2
  go_ret;exact⟨aU (by rw[HR.o,if_pos b9]),HX.o.trans (X2.o.trans (yd.ext ⟨_,rfl⟩))⟩
 by_cases h2:Q<P
 ·go_enter Tryz.func98,Tryz.ntmps98
  go_wp2_with fail;refine(az x y _).mono ?_;rw[HA.o];rintro e w1 ⟨rfl,hx⟩;obtain⟨I,G⟩:=zO hx;obtain⟨a0,a1,J⟩:=ah I;obtain⟨K,b1,fb⟩:=ah G;have X1:=ae hx;clear hx I G;go_wp2_with fail;refine(az u v _).mono ?_;rw[HB.o];rintro e w2 ⟨rfl,hx⟩;clear a0 a1 J K b1 fb;have X2:=ae (X1.o.trans hx);obtain⟨I,G⟩:=zO X2.o;obtain⟨a0,a1,J⟩:=ah I;obtain⟨K,b1,fb⟩:=ah G;clear hx I G
  go_wp2
  go_quiet (fail)
  go_wp2
  go_ret;exact⟨aU (by rw[HR.o,if_neg b9,if_pos b9]),HX.o.trans (X2.o.trans (yd.ext ⟨_,rfl⟩))⟩
 ·go_enter Tryz.func98,Tryz.ntmps98
  go_wp2_with fail;refine(az x y _).mono ?_;rw[HA.o];rintro e w1 ⟨rfl,hx⟩;obtain⟨I,G⟩:=zO hx;obtain⟨a0,a1,J⟩:=ah I;obtain⟨K,b1,fb⟩:=ah G;have X1:=ae hx;clear hx I G;go_wp2_with fail;refine(az u v _).mono ?_;rw[HB.o];rintro e w2 ⟨rfl,hx⟩;clear a0 a1 J K b1 fb;have X2:=ae (X1.o.trans hx);obtain⟨I,G⟩:=zO X2.o;obtain⟨a0,a1,J⟩:=ah I;obtain⟨K,b1,fb⟩:=ah G;clear hx I G
  go_wp2
  go_quiet (fail)
  go_wp2
  go_ret;exact⟨aU (by rw[HR.o,if_neg b9,if_neg b9]),HX.o.trans (X2.o.trans (yd.ext ⟨_,rfl⟩))⟩
theorem eo(x y u v:Int)(w:World):
 Calls Tryz.prog 118 #[xO x y,xO u v] w fun e w'=>e=.returned (.int .i64 (wU (x,y) (u,v)))/\Ext w w':=by
 have HX:=ae (show Ext w ((w.alloc (.cells #[.int .i64 x,.int .i64 y] 46)).alloc (.cells #[.int .i64 u,.int .i64 v] 46))from(Ext.alloc _ _).trans (Ext.alloc _ _));cases ha:o5 (x,y)
 ·have HA:=ae ha;have HR:=ae (show wU (x,y) (u,v)=0 by simp[wU,ha]);clear ha;go_enter Tryz.func118,Tryz.ntmps118
  go_wp2_with fail;refine(aO x y _).mono ?_;rw[HA.o];rintro e w1 ⟨rfl,hx⟩;obtain⟨I,G⟩:=zO hx;obtain⟨a0,a1,J⟩:=ah I;obtain⟨K,b1,fb⟩:=ah G;have X1:=ae hx;clear hx I G
  go_wp2
  go_ret;exact⟨aU HR.o.symm,HX.o.trans X1.o⟩
 cases hb:o5 (u,v)
 ·have HA:=ae ha;have HB:=ae hb;have HR:=ae (show wU (x,y) (u,v)=0 by simp[wU,hb]);clear ha hb;go_enter Tryz.func118,Tryz.ntmps118
  go_wp2_with fail;refine(aO x y _).mono ?_;rw[HA.o];rintro e w1 ⟨rfl,hx⟩;obtain⟨I,G⟩:=zO hx;obtain⟨a0,a1,J⟩:=ah I;obtain⟨K,b1,fb⟩:=ah G;have X1:=ae hx;clear hx I G;go_wp2_with fail;refine(aO u v _).mono ?_;rw[HB.o];rintro e w2 ⟨rfl,hx⟩;clear a0 a1 J K b1 fb;have X2:=ae (X1.o.trans hx);obtain⟨I,G⟩:=zO X2.o;obtain⟨a0,a1,J⟩:=ah I;obtain⟨K,b1,fb⟩:=ah G;clear hx I G
  go_wp2
  go_ret;exact⟨aU HR.o.symm,HX.o.trans X2.o⟩
 have HA:=ae ha;have HB:=ae hb;obtain⟨x1,x2,y1,y2⟩:=de ha;obtain⟨u1,u2,v1,v2⟩:=de hb;have U:xr (x*v):=dw b9 b9;have R:xr (u*y):=dw b9 b9;obtain⟨e1,g1⟩:=bz U;obtain⟨e2,g2⟩:=bz R;have hR:wU (x,y) (u,v)=(if x*v<u*y then -1 else if u*y<x*v then 1 else 0):=by simp[wU,ha,hb]
 obtain⟨P,hP⟩:=b8 (x*v);obtain⟨Q,O⟩:=b8 (u*y);rw[<-hP,<-O]at hR;rw[<-hP]at e1 g1;rw[<-O]at e2 g2;have HR:=ae hR;have hP':=hP.symm;have hQ':=O.symm;clear ha hb hR U R hP O;by_cases h1:P<Q
 ·go_enter Tryz.func118,Tryz.ntmps118
  go_wp2_with fail;refine(aO x y _).mono ?_;rw[HA.o];rintro e w1 ⟨rfl,hx⟩;obtain⟨I,G⟩:=zO hx;obtain⟨a0,a1,J⟩:=ah I;obtain⟨K,b1,fb⟩:=ah G;have X1:=ae hx;clear hx I G;go_wp2_with fail;refine(aO u v _).mono ?_;rw[HB.o];rintro e w2 ⟨rfl,hx⟩;clear a0 a1 J K b1 fb;have X2:=ae (X1.o.trans hx);obtain⟨I,G⟩:=zO X2.o;obtain⟨a0,a1,J⟩:=ah I;obtain⟨K,b1,fb⟩:=ah G;clear hx I G
  go_wp2
  go_ret;exact⟨aU (by rw[HR.o,if_pos b9]),HX.o.trans X2.o⟩
 by_cases h2:Q<P
 ·go_enter Tryz.func118,Tryz.ntmps118
  go_wp2_with fail;refine(aO x y _).mono ?_;rw[HA.o];rintro e w1 ⟨rfl,hx⟩;obtain⟨I,G⟩:=zO hx;obtain⟨a0,a1,J⟩:=ah I;obtain⟨K,b1,fb⟩:=ah G;have X1:=ae hx;clear hx I G;go_wp2_with fail;refine(aO u v _).mono ?_;rw[HB.o];rintro e w2 ⟨rfl,hx⟩;clear a0 a1 J K b1 fb;have X2:=ae (X1.o.trans hx);obtain⟨I,G⟩:=zO X2.o;obtain⟨a0,a1,J⟩:=ah I;obtain⟨K,b1,fb⟩:=ah G;clear hx I G
  go_wp2
  go_ret;exact⟨aU (by rw[HR.o,if_neg b9,if_pos b9]),HX.o.trans X2.o⟩
 ·go_enter Tryz.func118,Tryz.ntmps118
  go_wp2_with fail;refine(aO x y _).mono ?_;rw[HA.o];rintro e w1 ⟨rfl,hx⟩;obtain⟨I,G⟩:=zO hx;obtain⟨a0,a1,J⟩:=ah I;obtain⟨K,b1,fb⟩:=ah G;have X1:=ae hx;clear hx I G;go_wp2_with fail;refine(aO u v _).mono ?_;rw[HB.o];rintro e w2 ⟨rfl,hx⟩;clear a0 a1 J K b1 fb;have X2:=ae (X1.o.trans hx);obtain⟨I,G⟩:=zO X2.o;obtain⟨a0,a1,J⟩:=ah I;obtain⟨K,b1,fb⟩:=ah G;clear hx I G
  go_wp2
  go_ret;exact⟨aU (by rw[HR.o,if_neg b9,if_neg b9]),HX.o.trans X2.o⟩
theorem lY(x y u v:Int)(w:World):
 Calls Tryz.prog 120 #[xO x y,xO u v] w fun e w'=>e=.returned (BA (xy (x,y) (u,v)))/\Ext w w':=by
 have HX:=ae (show Ext w (((w.alloc (.cells #[.int .i64 x,.int .i64 y] 46)).alloc (.cells #[.int .i64 u,.int .i64 v] 46)).alloc (.cells #[.int .i64 0,.int .i64 0] 46))from((Ext.alloc _ _).trans (Ext.alloc _ _)).trans (Ext.alloc _ _));cases hb:o5 (u,v)
 ·have HB:=ae hb;have HR:=ae (show xy (x,y) (u,v)=((0,0),false)by simp[xy,hb]);clear hb;go_enter Tryz.func120,Tryz.ntmps120
  go_wp2_with fail;refine(aO u v _).mono ?_;rw[HB.o];rintro e w1 ⟨rfl,hx⟩;obtain⟨I,J,G⟩:=xX hx;obtain⟨a0,a1,R⟩:=ah I;obtain⟨U,b1,fb⟩:=ah J;obtain⟨r0,r1,O⟩:=ah G;have X1:=ae hx;clear hx I J G
  go_wp2
  rw[HR.o];refine bodyPost_ret (v:=.tuple #[.agg #[.int .i64 0,.int .i64 0],.bool false]) (by simp[results,Tryz.results120,go_sem,r0,r1]) rfl ⟨rfl,?_⟩;exact((HX.o.trans X1.o).setCell (by simp;omega) _).setCell (by simp;omega) _
 ·have HB:=ae hb;obtain⟨u1,u2,v1,v2⟩:=de hb;obtain⟨p,q,ok,K⟩:∃p q ok,xP (x,y) (-u,v)=((p,q),ok):=⟨_,_,_,rfl⟩;have yt:=ae K;have HR:=ae (show xy (x,y) (u,v)=((p,q),ok)by rw[<-mh];exact K);clear hb K;go_enter Tryz.func120,Tryz.ntmps120
  go_wp2_with fail;refine(aO u v _).mono ?_;rw[HB.o];rintro e w1 ⟨rfl,hx⟩;obtain⟨I,J,G⟩:=xX hx;obtain⟨a0,a1,R⟩:=ah I;obtain⟨U,b1,fb⟩:=ah J;obtain⟨r0,r1,O⟩:=ah G;have X1:=ae hx;have QV:=ae I;have Z:=ae G;have hl:=lt_of_block G;clear hx I J G;go_wp2_with fail;refine(jP _ _ _ _ _).mono ?_;rw[yt.o];rintro e w3 ⟨rfl,hx⟩;have hz:Ext w (w1.setCell ⟨w.heap.size+1,0,none⟩ (.int .i64 (-u))):=(HX.o.trans X1.o).setCell e7 _;have X3:=ae (hz.trans hx);clear hz;have G:w3.heap[w.heap.size+1+1]?=some (.cells #[.int .i64 0,.int .i64 0] 46 (0,0)):=(hx.block _ (by simp;omega)).trans ((heap_setCell_other _ _ _ _ e7).trans Z.o);clear a0 a1 R U b1 fb r0 r1 O;obtain⟨r0,r1,O⟩:=ah G;clear hx G
  go_wp2
  rw[HR.o];refine bodyPost_ret (v:=.tuple #[.agg #[.int .i64 p,.int .i64 q],.bool ok]) (by simp[results,Tryz.results120,go_sem,r0,r1]) rfl ⟨rfl,?_⟩;exact(X3.o.setCell (by simp;omega) _).setCell (by simp;omega) _
structure aj(w W:World)(g:Nat)(p q:Int):Prop where
 ext:Ext w W
 ge:w.heap.size<=g
 cell:W.heap[g]?=some (.cells #[.int .i64 p,.int .i64 q] 46 (0,0))
theorem aj.lt{p q:Int}(h:aj w W g p q):g<W.heap.size:=lt_of_block h.cell
theorem aj.grow{G:World}{p q:Int}(h:aj w W g p q)(hx:Ext W G):aj w G g p q :=
 ⟨h.ext.trans hx,h.ge,(hx.block _ h.lt).trans h.cell⟩
theorem aj.c0{p q:Int}(h:aj w W g p q):W.cell? ⟨g,0,none⟩=some (.int .i64 p):=(ah h.cell).1
theorem aj.c1{p q:Int}(h:aj w W g p q):W.cell? ⟨g,1,none⟩=some (.int .i64 q):=(ah h.cell).2.1
theorem aj.free{p q:Int}(h:aj w W g p q)(o:Nat):W.frozen? ⟨g,o,none⟩=false:=(ah h.cell).2.2 o
theorem aj.new(h:Ext w W)(p q:Int):aj w (W.alloc (.cells #[.int .i64 p,.int .i64 q] 46)) W.heap.size p q :=
 ⟨h.trans (Ext.alloc _ _),h.size,heap_alloc_new _ _⟩
theorem aj.new'(h:Ext w W)(p q:Int)(hn:n=W.heap.size):aj w (W.alloc (.cells #[.int .i64 p,.int .i64 q] 46)) n p q:=by
 subst hn;exact aj.new h p q
theorem aj.put{p q:Int}(h:aj w W g p q)(I G:Int):aj w ((W.setCell ⟨g,0,none⟩ (.int .i64 I)).setCell ⟨g,1,none⟩ (.int .i64 G)) g I G :=
 ⟨(h.ext.setCell (p:=⟨g,0,none⟩) h.ge (.int .i64 I)).setCell (p:=⟨g,1,none⟩) h.ge (.int .i64 G),h.ge,by rw[heap_setCell_same _ _ _ _ _ _ (heap_setCell_same _ _ _ _ _ _ h.cell)];rfl⟩
theorem aj.xu{w':World}(h:Ext (w.alloc (.cells #[.int .i64 0,.int .i64 0] 46)).drew w'):aj w w' w.heap.size 0 0 :=
 aj.grow ⟨(Ext.alloc _ _).trans (Ext.drew _),Nat.le_refl _,heap_alloc_new w _⟩ h
theorem aj.xA{w':World}(h:Ext w W)(hx:Ext (W.alloc (.cells #[.int .i64 0,.int .i64 0] 46)) w'):aj w w' W.heap.size 0 0 :=
 aj.grow (aj.new h 0 0) hx
def runT(f:Nat->Option (Int×Int)):Nat->Option (j6)
 | 0=>some []
 | m+1=>(runT f m).bind fun l=>(f m).map fun x=>l++[x]
theorem dB{r:j6}{x:k5}(h:runT f k=some r)(hx:f k=some x):runT f (k+1)=some (r++[x]):=by simp[runT,h,hx]
theorem nh(h:runT f k=none):∀{n:Nat},k<=n->runT f n=none
 | n,hn=>by
   obtain⟨d,rfl⟩:∃d,n=k+d:=⟨n-k,by omega⟩;clear hn
   induction d with
   | zero=>exact h
   | succ d ih=>show(runT f (k+d)).bind _=none;rw[ih];rfl
theorem fj{r:j6}(h:runT f k=some r)(hx:f k=none)(hn:k<n):runT f n=none :=
 nh (k:=k+1) (by simp[runT,h,hx]) b9
theorem cU{f:Nat->Option (Int×Int)}:∀{k:Nat} {r:j6},runT f k=some r->r.length=k
 | 0,r,h=>by simp only[runT,Option.some.injEq]at h;rw[<-h];rfl
 | k+1,r,h=>by
   cases hk:runT f k with
   | none=>simp[runT,hk]at h
   | some l =>
     cases hf:f k with
     | none=>simp[runT,hk,hf]at h
     | some x =>
       rw[dB hk hf]at h;simp only[Option.some.injEq]at h;rw[<-h,List.length_append,cU hk]
       rfl
theorem gN{f:Nat->Option (Int×Int)}:∀{k:Nat} {r:j6},runT f k=some r->∀i,i<k->f i=some (r[i]?.getD (0,0))
 | 0,r,h=>fun i hi=>absurd hi b9
 | k+1,r,h=>fun i hi=>by
   cases hk:runT f k with
   | none=>simp[runT,hk]at h
   | some l =>
     cases hf:f k with
     | none=>simp[runT,hk,hf]at h
     | some x =>
       rw[dB hk hf]at h;simp only[Option.some.injEq]at h;subst h;have hl:=cU hk;by_cases DU:i<k
       ·rw[List.getElem?_append_left b9];exact gN hk i DU
       ·obtain rfl:i=k:=by omega
        rw[<-hl,List.getElem?_concat_length,Option.getD_some,hl,hf]
theorem jO{f:Nat->Option (Int×Int)}{F:Nat->k5}:∀{k:Nat},(∀i,i<k->f i=some (F i))->runT f k=some ((List.range k).map F)
 | 0,_=>rfl
 | k+1,h=>by
   rw[dB (jO fun i hi=>h i b9) (h k b9),List.range_succ,List.map_append]
   rfl
def C6(A:j6)(k:k5)(B:j6)(i:Nat):Option (Int×Int) :=
 if(mulR k (B[i]?.getD (0,0))).2=true/\(xP (A[i]?.getD (0,0)) (mulR k (B[i]?.getD (0,0))).1).2=true then some (xP (A[i]?.getD (0,0)) (mulR k (B[i]?.getD (0,0))).1).1 else none
def zo(A:j6)(k:k5)(B:j6):Option (j6):=if A.length=B.length then runT (C6 A k B) A.length else none
def aw(C:j9):j6:=C.map fun c=>(c,1)
theorem cz(C:j9):(aw C).length=C.length:=by simp[aw]
theorem fX{C:j9}(h:k<C.length):(aw C)[k]?.getD (0,0)=(C[k]?.getD 0,1):=by simp[aw,h]
def CQ(C:j9):Bool:=C.all fun c=>wJ c (-1000000000) 1000000000
def yz(l:j6):Bool:=l.all o5
theorem uG{p:k5->Bool}(h:k<l.length):(l.take (k+1)).all p=((l.take k).all p&&p (l[k]?.getD (0,0))):=by
 rw[dV h];simp
theorem tJ{p:k5->Bool}(h:k<l.length)(hb:p (l[k]?.getD (0,0))=false):l.all p=false:=by
 rw[List.all_eq_false];exact⟨l[k],List.getElem_mem h,by rw[List.getElem?_eq_getElem h]at hb;simpa using hb⟩
theorem ik{a:j8}{cap:Nat}(h:r8 w a n cap l):
 Calls Tryz.prog 72 #[.slice a n cap] w fun e w'=>e=.returned (.bool (yz l))/\Ext w w':=by
 have o3:=h.o3;have l9:=h.l9;have HL:=ae h.hlen;have HI:=ae h;clear h;go_enter Tryz.func72,Tryz.ntmps72
 go_wp2_with fail
 go_loopg [3] n (fun gk ii wr=>∃k:Nat,b7 (gk+k=n)/\ii=.int .i64 (k:Int)/\b7 ((l.take k).all o5=true)/\b7 (Ext w wr))
 case atStart=>exact⟨0,ae b9,rfl,ae rfl,ae (Ext.refl _)⟩
 case round =>
  obtain⟨g1,J⟩:=b8 gk;subst J;obtain⟨K,O⟩:=b8 wr;subst O;obtain⟨k,I,rfl,HA,HX⟩:=hrel;by_cases hlt:k<n
  ·obtain⟨b,off,x,y,rfl,G,y5,yq⟩:=(HI.o.ext HX.o).at hlt;have HC:=ae (aO x y K);cases hb:o5 (x,y)
   all_goals
    rw[hb]at HC
   ·have HF:=ae (show yz l=false from tJ (by rw[HL.o];exact hlt) (by rw[G];exact hb));clear G hb;go_wp2_with fail;refine HC.o.mono ?_;rintro e w2 ⟨rfl,xg⟩;go_wp2_with fail;go_ret;exact⟨ag HF.o.symm,HX.o.trans xg⟩
   ·have HT:=ae (show(l.take (k+1)).all o5=true by rw[uG (by rw[HL.o];exact hlt),HA.o,G,hb];rfl);clear G hb;go_wp2_with fail;refine HC.o.mono ?_;rintro e w2 ⟨rfl,xg⟩;go_wp2_with fail
    go_roundg (g1-1)
    case measure=>have:=I.o;omega
    case rel=>exact⟨k+1,ae (j4 I.o),by go_num,HT,ae (HX.o.trans xg)⟩
  ·have HT:=ae (show l.take k=l from List.take_of_length_le (by rw[HL.o];have:=I.o;omega));go_wp2_with fail;go_ret;exact⟨ag (by have:=HA.o;rw[HT.o]at this;exact this.symm),HX.o⟩
end Go.Proofs.YtalmoolkhcgmmaaGreat
