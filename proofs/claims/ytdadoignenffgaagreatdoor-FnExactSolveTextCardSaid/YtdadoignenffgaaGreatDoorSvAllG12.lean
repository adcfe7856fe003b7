import Derived.Test.YtdadoignenffgaaGreatDoorSvAllG7
import Derived.Test.YtdadoignenffgaaGreatDoorSvAllG3
import Derived.Deep.RegionHeld3
import Derived.Deep.RegionLaw
import Derived.StillTailTactics
import Derived.Test.YtdadoignenffgaaGreatDoorSvAllG8
import Derived.Deep.DeepCutAuto
set_option linter.unusedVariables false
set_option linter.unusedSimpArgs false
namespace Go.Proofs.YtdadoignenffgaaGreatDoor
variable{w W:World}{x y:Int}{g k:Nat}{f:Nat->Option (Int×Int)}
set_option maxHeartbeats 16000000
set_option maxRecDepth 100000
open Go.RowKit
theorem wh{a b c:Obj}(hx:Ext (((w.alloc a).alloc b).alloc c) W):W.heap[w.heap.size]?=some a/\W.heap[w.heap.size+1]?=some b/\W.heap[w.heap.size+1+1]?=some c :=
 ⟨(hx.block _ (by simp;omega)).trans (by rw[bU _ _ _ (by simp;omega),bU _ _ _ e8];exact aj _ _ _ rfl),
  (hx.block _ e8).trans (by rw[bU _ _ _ e8];exact aj _ _ _ e8),(hx.block _ e8).trans (aj _ _ _ e8)⟩
theorem zL{a b:Obj}(hx:Ext ((w.alloc a).alloc b) W):W.heap[w.heap.size]?=some a/\W.heap[w.heap.size+1]?=some b :=
 ⟨(hx.block _ (by simp;omega)).trans (by rw[bU _ _ _ e8];exact aj _ _ _ rfl),(hx.block _ e8).trans (aj _ _ _ e8)⟩
theorem ah{b:Nat}{t:TypeId}(h:w.heap[b]?=some (.cells #[.int .i64 x,.int .i64 y] t (0,0))):w.cell? ⟨b,0,none⟩=some (.int .i64 x)/\w.cell? ⟨b,1,none⟩=some (.int .i64 y)/\∀o,w.frozen? ⟨b,o,none⟩=false :=
 ⟨by rw[cell_of_row _ _ _ _ _ _ h];rfl,by rw[cell_of_row _ _ _ _ _ _ h];rfl,fun o=>frozen_of_row _ _ _ _ _ h⟩
theorem df(h:o9 (x,y)=true):-1000000000<=x/\x<=1000000000/\-1000000000<=y/\y<=1000000000:=by have:=aL h;simp only at this;omega
theorem dt(h:-1000000000<=x/\x<=1000000000)(h':-1000000000<=y/\y<=1000000000):vu (x*y):=Js h.1 h.2 h'.1 h'.2
theorem iM(x y u v:Int)(w:World):
 Calls Tryz.prog 76 #[wk x y,wk u v] w fun e w'=>e=.returned (Bq (we (x,y) (u,v)))/\Ext w w':=by
 have HX:=ae (show Ext w (((w.alloc (.cells #[.int .i64 x,.int .i64 y] 62)).alloc (.cells #[.int .i64 u,.int .i64 v] 62)).alloc (.cells #[.int .i64 0,.int .i64 0] 62))from((Ext.alloc _ _).trans (Ext.alloc _ _)).trans (Ext.alloc _ _));cases ha:o9 (x,y)
 ·have HA:=ae ha;have HR:=ae (show we (x,y) (u,v)=((0,0),false)by simp[we,ha]);clear ha;go_enter Tryz.func76,Tryz.ntmps76
  go_wp2_with fail;refine(ap x y _).mono ?_;rw[HA.o];rintro e w1 ⟨rfl,hx⟩;obtain⟨I,G,E⟩:=wh hx;obtain⟨a0,a1,Q⟩:=ah I;obtain⟨b0,b1,fb⟩:=ah G;obtain⟨K,J,O⟩:=ah E;have X1:=ae hx;clear hx I G E
  go_wp2
  rw[HR.o];refine bodyPost_ret (v:=.tuple #[.agg #[.int .i64 0,.int .i64 0],.bool false]) (by simp[results,Tryz.results76,go_sem,K,J]) rfl ⟨rfl,?_⟩;exact((HX.o.trans X1.o).setCell (by simp;omega) _).setCell (by simp;omega) _
 cases hb:o9 (u,v)
 ·have HA:=ae ha;have HB:=ae hb;have HR:=ae (show we (x,y) (u,v)=((0,0),false)by simp[we,hb]);clear ha hb;go_enter Tryz.func76,Tryz.ntmps76
  go_wp2_with fail;refine(ap x y _).mono ?_;rw[HA.o];rintro e w1 ⟨rfl,hx⟩;obtain⟨I,G,E⟩:=wh hx;obtain⟨a0,a1,Q⟩:=ah I;obtain⟨b0,b1,fb⟩:=ah G;obtain⟨K,J,O⟩:=ah E;have X1:=ae hx;clear hx I G E;go_wp2_with fail;refine(ap u v _).mono ?_;rw[HB.o];rintro e w2 ⟨rfl,hx⟩;clear a0 a1 Q b0 b1 fb K J O;have X2:=ae (X1.o.trans hx);obtain⟨I,G,E⟩:=wh X2.o;obtain⟨a0,a1,Q⟩:=ah I;obtain⟨b0,b1,fb⟩:=ah G;obtain⟨K,J,O⟩:=ah E;clear hx I G E
  go_wp2
  rw[HR.o];refine bodyPost_ret (v:=.tuple #[.agg #[.int .i64 0,.int .i64 0],.bool false]) (by simp[results,Tryz.results76,go_sem,K,J]) rfl ⟨rfl,?_⟩;exact((HX.o.trans X2.o).setCell (by simp;omega) _).setCell (by simp;omega) _
 have HA:=ae ha;have HB:=ae hb;obtain⟨x1,x2,y1,y2⟩:=df ha;obtain⟨u1,u2,v1,v2⟩:=df hb;have q1:vu (x*v):=dt e7 e7;obtain⟨e1,g1⟩:=bj q1;have q2:vu (u*y):=dt e7 e7;obtain⟨e2,g2⟩:=bj q2;have Z:vu (y*v):=dt e7 e7;obtain⟨e3,g3⟩:=bj Z;have e4:IntKind.i64.wrap (x*v+u*y)=x*v+u*y:=by rw[IntKind.wrap_i64];unfold vu at *;omega
 have g4:wrap64 (x*v+u*y)=x*v+u*y:=by unfold wrap64;unfold vu at *;omega
 obtain⟨p,q,ok,U⟩:∃p q ok,az (x*v+u*y) (y*v)=((p,q),ok):=⟨_,_,_,rfl⟩;have wI:=ae U;have HR:=ae (show we (x,y) (u,v)=((p,q),ok)by simp[we,ha,hb,U]);clear ha hb U
 ·go_enter Tryz.func76,Tryz.ntmps76
  go_wp2_with fail;refine(ap x y _).mono ?_;rw[HA.o];rintro e w1 ⟨rfl,hx⟩;obtain⟨I,G,E⟩:=wh hx;obtain⟨a0,a1,Q⟩:=ah I;obtain⟨b0,b1,fb⟩:=ah G;obtain⟨K,J,O⟩:=ah E;have X1:=ae hx;clear hx I G E;go_wp2_with fail;refine(ap u v _).mono ?_;rw[HB.o];rintro e w2 ⟨rfl,hx⟩;clear a0 a1 Q b0 b1 fb K J O;have X2:=ae (X1.o.trans hx);obtain⟨I,G,E⟩:=wh X2.o;obtain⟨a0,a1,Q⟩:=ah I;obtain⟨b0,b1,fb⟩:=ah G;obtain⟨K,J,O⟩:=ah E;clear hx I G E;go_wp2_with fail;refine(ix _ _ _).mono ?_;rw[wI.o];rintro e w3 ⟨rfl,hx⟩;clear a0 a1 Q b0 b1 fb K J O;have X3:=ae (X2.o.trans hx);obtain⟨I,G,E⟩:=wh X3.o;obtain⟨a0,a1,Q⟩:=ah I;obtain⟨b0,b1,fb⟩:=ah G;obtain⟨K,J,O⟩:=ah E;clear hx I G E
  go_wp2
  rw[HR.o];refine bodyPost_ret (v:=.tuple #[.agg #[.int .i64 p,.int .i64 q],.bool ok]) (by simp[results,Tryz.results76,go_sem,K,J]) rfl ⟨rfl,?_⟩;exact((HX.o.trans X3.o).setCell (by simp;omega) _).setCell (by simp;omega) _
theorem gY(x y u v:Int)(w:World):
 Calls Tryz.prog 48 #[wk x y,wk u v] w fun e w'=>e=.returned (Bq (we (x,y) (u,v)))/\Ext w w':=by
 have HX:=ae (show Ext w (((w.alloc (.cells #[.int .i64 x,.int .i64 y] 62)).alloc (.cells #[.int .i64 u,.int .i64 v] 62)).alloc (.cells #[.int .i64 0,.int .i64 0] 62))from((Ext.alloc _ _).trans (Ext.alloc _ _)).trans (Ext.alloc _ _));cases ha:o9 (x,y)
 ·have HA:=ae ha;have HR:=ae (show we (x,y) (u,v)=((0,0),false)by simp[we,ha]);clear ha;go_enter Tryz.func48,Tryz.ntmps48
  go_wp2_with fail;refine(aw x y _).mono ?_;rw[HA.o];rintro e w1 ⟨rfl,hx⟩;obtain⟨I,G,E⟩:=wh hx;obtain⟨a0,a1,Q⟩:=ah I;obtain⟨b0,b1,fb⟩:=ah G;obtain⟨K,J,O⟩:=ah E;have X1:=ae hx;clear hx I G E
  go_wp2
  rw[HR.o];refine bodyPost_ret (v:=.tuple #[.agg #[.int .i64 0,.int .i64 0],.bool false]) (by simp[results,Tryz.results48,go_sem,K,J]) rfl ⟨rfl,?_⟩;exact((HX.o.trans X1.o).setCell (by simp;omega) _).setCell (by simp;omega) _
 cases hb:o9 (u,v)
 ·have HA:=ae ha;have HB:=ae hb;have HR:=ae (show we (x,y) (u,v)=((0,0),false)by simp[we,hb]);clear ha hb;go_enter Tryz.func48,Tryz.ntmps48
  go_wp2_with fail;refine(aw x y _).mono ?_;rw[HA.o];rintro e w1 ⟨rfl,hx⟩;obtain⟨I,G,E⟩:=wh hx;obtain⟨a0,a1,Q⟩:=ah I;obtain⟨b0,b1,fb⟩:=ah G;obtain⟨K,J,O⟩:=ah E;have X1:=ae hx;clear hx I G E;go_wp2_with fail;refine(aw u v _).mono ?_;rw[HB.o];rintro e w2 ⟨rfl,hx⟩;clear a0 a1 Q b0 b1 fb K J O;have X2:=ae (X1.o.trans hx);obtain⟨I,G,E⟩:=wh X2.o;obtain⟨a0,a1,Q⟩:=ah I;obtain⟨b0,b1,fb⟩:=ah G;obtain⟨K,J,O⟩:=ah E;clear hx I G E
  go_wp2
  rw[HR.o];refine bodyPost_ret (v:=.tuple #[.agg #[.int .i64 0,.int .i64 0],.bool false]) (by simp[results,Tryz.results48,go_sem,K,J]) rfl ⟨rfl,?_⟩;exact((HX.o.trans X2.o).setCell (by simp;omega) _).setCell (by simp;omega) _
 have HA:=ae ha;have HB:=ae hb;obtain⟨x1,x2,y1,y2⟩:=df ha;obtain⟨u1,u2,v1,v2⟩:=df hb;have q1:vu (x*v):=dt e7 e7;obtain⟨e1,g1⟩:=bj q1;have q2:vu (u*y):=dt e7 e7;obtain⟨e2,g2⟩:=bj q2;have Z:vu (y*v):=dt e7 e7;obtain⟨e3,g3⟩:=bj Z;have e4:IntKind.i64.wrap (x*v+u*y)=x*v+u*y:=by rw[IntKind.wrap_i64];unfold vu at *;omega
 have g4:wrap64 (x*v+u*y)=x*v+u*y:=by unfold wrap64;unfold vu at *;omega
 obtain⟨p,q,ok,U⟩:∃p q ok,az (x*v+u*y) (y*v)=((p,q),ok):=⟨_,_,_,rfl⟩;have wI:=ae U;have HR:=ae (show we (x,y) (u,v)=((p,q),ok)by simp[we,ha,hb,U]);clear ha hb U
 ·go_enter Tryz.func48,Tryz.ntmps48
  go_wp2_with fail;refine(aw x y _).mono ?_;rw[HA.o];rintro e w1 ⟨rfl,hx⟩;obtain⟨I,G,E⟩:=wh hx;obtain⟨a0,a1,Q⟩:=ah I;obtain⟨b0,b1,fb⟩:=ah G;obtain⟨K,J,O⟩:=ah E;have X1:=ae hx;clear hx I G E;go_wp2_with fail;refine(aw u v _).mono ?_;rw[HB.o];rintro e w2 ⟨rfl,hx⟩;clear a0 a1 Q b0 b1 fb K J O;have X2:=ae (X1.o.trans hx);obtain⟨I,G,E⟩:=wh X2.o;obtain⟨a0,a1,Q⟩:=ah I;obtain⟨b0,b1,fb⟩:=ah G;obtain⟨K,J,O⟩:=ah E;clear hx I G E;go_wp2_with fail;refine(jO _ _ _).mono ?_;rw[wI.o];rintro e w3 ⟨rfl,hx⟩;clear a0 a1 Q b0 b1 fb K J O;have X3:=ae (X2.o.trans hx);obtain⟨I,G,E⟩:=wh X3.o;obtain⟨a0,a1,Q⟩:=ah I;obtain⟨b0,b1,fb⟩:=ah G;obtain⟨K,J,O⟩:=ah E;clear hx I G E
  go_wp2
  rw[HR.o];refine bodyPost_ret (v:=.tuple #[.agg #[.int .i64 p,.int .i64 q],.bool ok]) (by simp[results,Tryz.results48,go_sem,K,J]) rfl ⟨rfl,?_⟩;exact((HX.o.trans X3.o).setCell (by simp;omega) _).setCell (by simp;omega) _
theorem kF(x y u v:Int)(w:World):
 Calls Tryz.prog 138 #[wk x y,wk u v] w fun e w'=>e=.returned (Bq (vD (x,y) (u,v)))/\Ext w w':=by
 have HX:=ae (show Ext w (((w.alloc (.cells #[.int .i64 x,.int .i64 y] 62)).alloc (.cells #[.int .i64 u,.int .i64 v] 62)).alloc (.cells #[.int .i64 0,.int .i64 0] 62))from((Ext.alloc _ _).trans (Ext.alloc _ _)).trans (Ext.alloc _ _));cases ha:o9 (x,y)
 ·have HA:=ae ha;have HR:=ae (show vD (x,y) (u,v)=((0,0),false)by simp[vD,ha]);clear ha;go_enter Tryz.func138,Tryz.ntmps138
  go_wp2_with fail;refine(ap x y _).mono ?_;rw[HA.o];rintro e w1 ⟨rfl,hx⟩;obtain⟨I,G,E⟩:=wh hx;obtain⟨a0,a1,Q⟩:=ah I;obtain⟨b0,b1,fb⟩:=ah G;obtain⟨K,J,O⟩:=ah E;have X1:=ae hx;clear hx I G E
  go_wp2
  rw[HR.o];refine bodyPost_ret (v:=.tuple #[.agg #[.int .i64 0,.int .i64 0],.bool false]) (by simp[results,Tryz.results138,go_sem,K,J]) rfl ⟨rfl,?_⟩;exact((HX.o.trans X1.o).setCell (by simp;omega) _).setCell (by simp;omega) _
 cases hb:o9 (u,v)
 ·have HA:=ae ha;have HB:=ae hb;have HR:=ae (show vD (x,y) (u,v)=((0,0),false)by simp[vD,hb]);clear ha hb;go_enter Tryz.func138,Tryz.ntmps138
  go_wp2_with fail;refine(ap x y _).mono ?_;rw[HA.o];rintro e w1 ⟨rfl,hx⟩;obtain⟨I,G,E⟩:=wh hx;obtain⟨a0,a1,Q⟩:=ah I;obtain⟨b0,b1,fb⟩:=ah G;obtain⟨K,J,O⟩:=ah E;have X1:=ae hx;clear hx I G E;go_wp2_with fail;refine(ap u v _).mono ?_;rw[HB.o];rintro e w2 ⟨rfl,hx⟩;clear a0 a1 Q b0 b1 fb K J O;have X2:=ae (X1.o.trans hx);obtain⟨I,G,E⟩:=wh X2.o;obtain⟨a0,a1,Q⟩:=ah I;obtain⟨b0,b1,fb⟩:=ah G;obtain⟨K,J,O⟩:=ah E;clear hx I G E
  go_wp2
  rw[HR.o];refine bodyPost_ret (v:=.tuple #[.agg #[.int .i64 0,.int .i64 0],.bool false]) (by simp[results,Tryz.results138,go_sem,K,J]) rfl ⟨rfl,?_⟩;exact((HX.o.trans X2.o).setCell (by simp;omega) _).setCell (by simp;omega) _
 have HA:=ae ha;have HB:=ae hb;obtain⟨x1,x2,y1,y2⟩:=df ha;obtain⟨u1,u2,v1,v2⟩:=df hb;have q1:vu (x*v):=dt e7 e7;obtain⟨e1,g1⟩:=bj q1;have q2:vu (u*y):=dt e7 e7;obtain⟨e2,g2⟩:=bj q2;have Z:vu (y*v):=dt e7 e7;obtain⟨e3,g3⟩:=bj Z;have e4:IntKind.i64.wrap (x*v-u*y)=x*v-u*y:=by rw[IntKind.wrap_i64];unfold vu at *;omega
 have g4:wrap64 (x*v-u*y)=x*v-u*y:=by unfold wrap64;unfold vu at *;omega
 obtain⟨p,q,ok,U⟩:∃p q ok,az (x*v-u*y) (y*v)=((p,q),ok):=⟨_,_,_,rfl⟩;have wI:=ae U;have HR:=ae (show vD (x,y) (u,v)=((p,q),ok)by simp[vD,ha,hb,U]);clear ha hb U
 ·go_enter Tryz.func138,Tryz.ntmps138
  go_wp2_with fail;refine(ap x y _).mono ?_;rw[HA.o];rintro e w1 ⟨rfl,hx⟩;obtain⟨I,G,E⟩:=wh hx;obtain⟨a0,a1,Q⟩:=ah I;obtain⟨b0,b1,fb⟩:=ah G;obtain⟨K,J,O⟩:=ah E;have X1:=ae hx;clear hx I G E;go_wp2_with fail;refine(ap u v _).mono ?_;rw[HB.o];rintro e w2 ⟨rfl,hx⟩;clear a0 a1 Q b0 b1 fb K J O;have X2:=ae (X1.o.trans hx);obtain⟨I,G,E⟩:=wh X2.o;obtain⟨a0,a1,Q⟩:=ah I;obtain⟨b0,b1,fb⟩:=ah G;obtain⟨K,J,O⟩:=ah E;clear hx I G E;go_wp2_with fail;refine(ix _ _ _).mono ?_;rw[wI.o];rintro e w3 ⟨rfl,hx⟩;clear a0 a1 Q b0 b1 fb K J O;have X3:=ae (X2.o.trans hx);obtain⟨I,G,E⟩:=wh X3.o;obtain⟨a0,a1,Q⟩:=ah I;obtain⟨b0,b1,fb⟩:=ah G;obtain⟨K,J,O⟩:=ah E;clear hx I G E
  go_wp2
  rw[HR.o];refine bodyPost_ret (v:=.tuple #[.agg #[.int .i64 p,.int .i64 q],.bool ok]) (by simp[results,Tryz.results138,go_sem,K,J]) rfl ⟨rfl,?_⟩;exact((HX.o.trans X3.o).setCell (by simp;omega) _).setCell (by simp;omega) _
theorem oY(x y u v:Int)(w:World):
 Calls Tryz.prog 237 #[wk x y,wk u v] w fun e w'=>e=.returned (Bq (mulR (x,y) (u,v)))/\Ext w w':=by
 have HX:=ae (show Ext w (((w.alloc (.cells #[.int .i64 x,.int .i64 y] 62)).alloc (.cells #[.int .i64 u,.int .i64 v] 62)).alloc (.cells #[.int .i64 0,.int .i64 0] 62))from((Ext.alloc _ _).trans (Ext.alloc _ _)).trans (Ext.alloc _ _));cases ha:o9 (x,y)
 ·have HA:=ae ha;have HR:=ae (show mulR (x,y) (u,v)=((0,0),false)by simp[mulR,ha]);clear ha;go_enter Tryz.func237,Tryz.ntmps237
  go_wp2_with fail;refine(ap x y _).mono ?_;rw[HA.o];rintro e w1 ⟨rfl,hx⟩;obtain⟨I,G,E⟩:=wh hx;obtain⟨a0,a1,Q⟩:=ah I;obtain⟨b0,b1,fb⟩:=ah G;obtain⟨K,J,O⟩:=ah E;have X1:=ae hx;clear hx I G E
  go_wp2
  rw[HR.o];refine bodyPost_ret (v:=.tuple #[.agg #[.int .i64 0,.int .i64 0],.bool false]) (by simp[results,Tryz.results237,go_sem,K,J]) rfl ⟨rfl,?_⟩;exact((HX.o.trans X1.o).setCell (by simp;omega) _).setCell (by simp;omega) _
 cases hb:o9 (u,v)
 ·have HA:=ae ha;have HB:=ae hb;have HR:=ae (show mulR (x,y) (u,v)=((0,0),false)by simp[mulR,hb]);clear ha hb;go_enter Tryz.func237,Tryz.ntmps237
  go_wp2_with fail;refine(ap x y _).mono ?_;rw[HA.o];rintro e w1 ⟨rfl,hx⟩;obtain⟨I,G,E⟩:=wh hx;obtain⟨a0,a1,Q⟩:=ah I;obtain⟨b0,b1,fb⟩:=ah G;obtain⟨K,J,O⟩:=ah E;have X1:=ae hx;clear hx I G E;go_wp2_with fail;refine(ap u v _).mono ?_;rw[HB.o];rintro e w2 ⟨rfl,hx⟩;clear a0 a1 Q b0 b1 fb K J O;have X2:=ae (X1.o.trans hx);obtain⟨I,G,E⟩:=wh X2.o;obtain⟨a0,a1,Q⟩:=ah I;obtain⟨b0,b1,fb⟩:=ah G;obtain⟨K,J,O⟩:=ah E;clear hx I G E
  go_wp2
  rw[HR.o];refine bodyPost_ret (v:=.tuple #[.agg #[.int .i64 0,.int .i64 0],.bool false]) (by simp[results,Tryz.results237,go_sem,K,J]) rfl ⟨rfl,?_⟩;exact((HX.o.trans X2.o).setCell (by simp;omega) _).setCell (by simp;omega) _
 have HA:=ae ha;have HB:=ae hb;obtain⟨x1,x2,y1,y2⟩:=df ha;obtain⟨u1,u2,v1,v2⟩:=df hb;have q1:vu (x*u):=dt e7 e7;obtain⟨e1,g1⟩:=bj q1;have Z:vu (y*v):=dt e7 e7;obtain⟨e2,g2⟩:=bj Z;obtain⟨p,q,ok,U⟩:∃p q ok,az (x*u) (y*v)=((p,q),ok):=⟨_,_,_,rfl⟩;have wI:=ae U;have HR:=ae (show mulR (x,y) (u,v)=((p,q),ok)by simp[mulR,ha,hb,U]);clear ha hb U
 ·go_enter Tryz.func237,Tryz.ntmps237
  go_wp2_with fail;refine(ap x y _).mono ?_;rw[HA.o];rintro e w1 ⟨rfl,hx⟩;obtain⟨I,G,E⟩:=wh hx;obtain⟨a0,a1,Q⟩:=ah I;obtain⟨b0,b1,fb⟩:=ah G;obtain⟨K,J,O⟩:=ah E;have X1:=ae hx;clear hx I G E;go_wp2_with fail;refine(ap u v _).mono ?_;rw[HB.o];rintro e w2 ⟨rfl,hx⟩;clear a0 a1 Q b0 b1 fb K J O;have X2:=ae (X1.o.trans hx);obtain⟨I,G,E⟩:=wh X2.o;obtain⟨a0,a1,Q⟩:=ah I;obtain⟨b0,b1,fb⟩:=ah G;obtain⟨K,J,O⟩:=ah E;clear hx I G E;go_wp2_with fail;refine(ix _ _ _).mono ?_;rw[wI.o];rintro e w3 ⟨rfl,hx⟩;clear a0 a1 Q b0 b1 fb K J O;have X3:=ae (X2.o.trans hx);obtain⟨I,G,E⟩:=wh X3.o;obtain⟨a0,a1,Q⟩:=ah I;obtain⟨b0,b1,fb⟩:=ah G;obtain⟨K,J,O⟩:=ah E;clear hx I G E
  go_wp2
  rw[HR.o];refine bodyPost_ret (v:=.tuple #[.agg #[.int .i64 p,.int .i64 q],.bool ok]) (by simp[results,Tryz.results237,go_sem,K,J]) rfl ⟨rfl,?_⟩;exact((HX.o.trans X3.o).setCell (by simp;omega) _).setCell (by simp;omega) _
theorem pQ(x y u v:Int)(w:World):
 Calls Tryz.prog 223 #[wk x y,wk u v] w fun e w'=>e=.returned (Bq (mulR (x,y) (u,v)))/\Ext w w':=by
 have HX:=ae (show Ext w (((w.alloc (.cells #[.int .i64 x,.int .i64 y] 62)).alloc (.cells #[.int .i64 u,.int .i64 v] 62)).alloc (.cells #[.int .i64 0,.int .i64 0] 62))from((Ext.alloc _ _).trans (Ext.alloc _ _)).trans (Ext.alloc _ _));cases ha:o9 (x,y)
 ·have HA:=ae ha;have HR:=ae (show mulR (x,y) (u,v)=((0,0),false)by simp[mulR,ha]);clear ha;go_enter Tryz.func223,Tryz.ntmps223
  go_wp2_with fail;refine(aw x y _).mono ?_;rw[HA.o];rintro e w1 ⟨rfl,hx⟩;obtain⟨I,G,E⟩:=wh hx;obtain⟨a0,a1,Q⟩:=ah I;obtain⟨b0,b1,fb⟩:=ah G;obtain⟨K,J,O⟩:=ah E;have X1:=ae hx;clear hx I G E
  go_wp2
  rw[HR.o];refine bodyPost_ret (v:=.tuple #[.agg #[.int .i64 0,.int .i64 0],.bool false]) (by simp[results,Tryz.results223,go_sem,K,J]) rfl ⟨rfl,?_⟩;exact((HX.o.trans X1.o).setCell (by simp;omega) _).setCell (by simp;omega) _
 cases hb:o9 (u,v)
 ·have HA:=ae ha;have HB:=ae hb;have HR:=ae (show mulR (x,y) (u,v)=((0,0),false)by simp[mulR,hb]);clear ha hb;go_enter Tryz.func223,Tryz.ntmps223
  go_wp2_with fail;refine(aw x y _).mono ?_;rw[HA.o];rintro e w1 ⟨rfl,hx⟩;obtain⟨I,G,E⟩:=wh hx;obtain⟨a0,a1,Q⟩:=ah I;obtain⟨b0,b1,fb⟩:=ah G;obtain⟨K,J,O⟩:=ah E;have X1:=ae hx;clear hx I G E;go_wp2_with fail;refine(aw u v _).mono ?_;rw[HB.o];rintro e w2 ⟨rfl,hx⟩;clear a0 a1 Q b0 b1 fb K J O;have X2:=ae (X1.o.trans hx);obtain⟨I,G,E⟩:=wh X2.o;obtain⟨a0,a1,Q⟩:=ah I;obtain⟨b0,b1,fb⟩:=ah G;obtain⟨K,J,O⟩:=ah E;clear hx I G E
  go_wp2
  rw[HR.o];refine bodyPost_ret (v:=.tuple #[.agg #[.int .i64 0,.int .i64 0],.bool false]) (by simp[results,Tryz.results223,go_sem,K,J]) rfl ⟨rfl,?_⟩;exact((HX.o.trans X2.o).setCell (by simp;omega) _).setCell (by simp;omega) _
 have HA:=ae ha;have HB:=ae hb;obtain⟨x1,x2,y1,y2⟩:=df ha;obtain⟨u1,u2,v1,v2⟩:=df hb;have q1:vu (x*u):=dt e7 e7;obtain⟨e1,g1⟩:=bj q1;have Z:vu (y*v):=dt e7 e7;obtain⟨e2,g2⟩:=bj Z;obtain⟨p,q,ok,U⟩:∃p q ok,az (x*u) (y*v)=((p,q),ok):=⟨_,_,_,rfl⟩;have wI:=ae U;have HR:=ae (show mulR (x,y) (u,v)=((p,q),ok)by simp[mulR,ha,hb,U]);clear ha hb U
 ·go_enter Tryz.func223,Tryz.ntmps223
  go_wp2_with fail;refine(aw x y _).mono ?_;rw[HA.o];rintro e w1 ⟨rfl,hx⟩;obtain⟨I,G,E⟩:=wh hx;obtain⟨a0,a1,Q⟩:=ah I;obtain⟨b0,b1,fb⟩:=ah G;obtain⟨K,J,O⟩:=ah E;have X1:=ae hx;clear hx I G E;go_wp2_with fail;refine(aw u v _).mono ?_;rw[HB.o];rintro e w2 ⟨rfl,hx⟩;clear a0 a1 Q b0 b1 fb K J O;have X2:=ae (X1.o.trans hx);obtain⟨I,G,E⟩:=wh X2.o;obtain⟨a0,a1,Q⟩:=ah I;obtain⟨b0,b1,fb⟩:=ah G;obtain⟨K,J,O⟩:=ah E;clear hx I G E;go_wp2_with fail;refine(jO _ _ _).mono ?_;rw[wI.o];rintro e w3 ⟨rfl,hx⟩;clear a0 a1 Q b0 b1 fb K J O;have X3:=ae (X2.o.trans hx);obtain⟨I,G,E⟩:=wh X3.o;obtain⟨a0,a1,Q⟩:=ah I;obtain⟨b0,b1,fb⟩:=ah G;obtain⟨K,J,O⟩:=ah E;clear hx I G E
  go_wp2
  rw[HR.o];refine bodyPost_ret (v:=.tuple #[.agg #[.int .i64 p,.int .i64 q],.bool ok]) (by simp[results,Tryz.results223,go_sem,K,J]) rfl ⟨rfl,?_⟩;exact((HX.o.trans X3.o).setCell (by simp;omega) _).setCell (by simp;omega) _
theorem oT(x y u v:Int)(w:World):
 Calls Tryz.prog 253 #[wk x y,wk u v] w fun e w'=>e=.returned (Bq (xk (x,y) (u,v)))/\Ext w w':=by
 have HX:=ae (show Ext w (((w.alloc (.cells #[.int .i64 x,.int .i64 y] 62)).alloc (.cells #[.int .i64 u,.int .i64 v] 62)).alloc (.cells #[.int .i64 0,.int .i64 0] 62))from((Ext.alloc _ _).trans (Ext.alloc _ _)).trans (Ext.alloc _ _));cases ha:o9 (x,y)
 ·have HA:=ae ha;have HR:=ae (show xk (x,y) (u,v)=((0,0),false)by simp[xk,ha]);clear ha;go_enter Tryz.func253,Tryz.ntmps253
  go_wp2_with fail;refine(ap x y _).mono ?_;rw[HA.o];rintro e w1 ⟨rfl,hx⟩;obtain⟨I,G,E⟩:=wh hx;obtain⟨a0,a1,Q⟩:=ah I;obtain⟨b0,b1,fb⟩:=ah G;obtain⟨K,J,O⟩:=ah E;have X1:=ae hx;clear hx I G E
  go_wp2
  rw[HR.o];refine bodyPost_ret (v:=.tuple #[.agg #[.int .i64 0,.int .i64 0],.bool false]) (by simp[results,Tryz.results253,go_sem,K,J]) rfl ⟨rfl,?_⟩;exact((HX.o.trans X1.o).setCell (by simp;omega) _).setCell (by simp;omega) _
 cases hb:o9 (u,v)
 ·have HA:=ae ha;have HB:=ae hb;have HR:=ae (show xk (x,y) (u,v)=((0,0),false)by simp[xk,hb]);clear ha hb;go_enter Tryz.func253,Tryz.ntmps253
  go_wp2_with fail;refine(ap x y _).mono ?_;rw[HA.o];rintro e w1 ⟨rfl,hx⟩;obtain⟨I,G,E⟩:=wh hx;obtain⟨a0,a1,Q⟩:=ah I;obtain⟨b0,b1,fb⟩:=ah G;obtain⟨K,J,O⟩:=ah E;have X1:=ae hx;clear hx I G E;go_wp2_with fail;refine(ap u v _).mono ?_;rw[HB.o];rintro e w2 ⟨rfl,hx⟩;clear a0 a1 Q b0 b1 fb K J O;have X2:=ae (X1.o.trans hx);obtain⟨I,G,E⟩:=wh X2.o;obtain⟨a0,a1,Q⟩:=ah I;obtain⟨b0,b1,fb⟩:=ah G;obtain⟨K,J,O⟩:=ah E;clear hx I G E
  go_wp2
  rw[HR.o];refine bodyPost_ret (v:=.tuple #[.agg #[.int .i64 0,.int .i64 0],.bool false]) (by simp[results,Tryz.results253,go_sem,K,J]) rfl ⟨rfl,?_⟩;exact((HX.o.trans X2.o).setCell (by simp;omega) _).setCell (by simp;omega) _
 have HA:=ae ha;have HB:=ae hb;obtain⟨x1,x2,y1,y2⟩:=df ha;obtain⟨u1,u2,v1,v2⟩:=df hb;have q1:vu (x*v):=dt e7 e7;obtain⟨e1,g1⟩:=bj q1;have Z:vu (y*u):=dt e7 e7;obtain⟨e2,g2⟩:=bj Z;obtain⟨p,q,ok,U⟩:∃p q ok,az (x*v) (y*u)=((p,q),ok):=⟨_,_,_,rfl⟩;have wI:=ae U;have HR:=ae (show xk (x,y) (u,v)=((p,q),ok)by simp[xk,ha,hb,U]);clear ha hb U
 ·go_enter Tryz.func253,Tryz.ntmps253
  go_wp2_with fail;refine(ap x y _).mono ?_;rw[HA.o];rintro e w1 ⟨rfl,hx⟩;obtain⟨I,G,E⟩:=wh hx;obtain⟨a0,a1,Q⟩:=ah I;obtain⟨b0,b1,fb⟩:=ah G;obtain⟨K,J,O⟩:=ah E;have X1:=ae hx;clear hx I G E;go_wp2_with fail;refine(ap u v _).mono ?_;rw[HB.o];rintro e w2 ⟨rfl,hx⟩;clear a0 a1 Q b0 b1 fb K J O;have X2:=ae (X1.o.trans hx);obtain⟨I,G,E⟩:=wh X2.o;obtain⟨a0,a1,Q⟩:=ah I;obtain⟨b0,b1,fb⟩:=ah G;obtain⟨K,J,O⟩:=ah E;clear hx I G E;go_wp2_with fail;refine(ix _ _ _).mono ?_;rw[wI.o];rintro e w3 ⟨rfl,hx⟩;clear a0 a1 Q b0 b1 fb K J O;have X3:=ae (X2.o.trans hx);obtain⟨I,G,E⟩:=wh X3.o;obtain⟨a0,a1,Q⟩:=ah I;obtain⟨b0,b1,fb⟩:=ah G;obtain⟨K,J,O⟩:=ah E;clear hx I G E
  go_wp2
  rw[HR.o];refine bodyPost_ret (v:=.tuple #[.agg #[.int .i64 p,.int .i64 q],.bool ok]) (by simp[results,Tryz.results253,go_sem,K,J]) rfl ⟨rfl,?_⟩;exact((HX.o.trans X3.o).setCell (by simp;omega) _).setCell (by simp;omega) _
theorem pK(x y u v:Int)(w:World):
 Calls Tryz.prog 242 #[wk x y,wk u v] w fun e w'=>e=.returned (Bq (xk (x,y) (u,v)))/\Ext w w':=by
 have HX:=ae (show Ext w (((w.alloc (.cells #[.int .i64 x,.int .i64 y] 62)).alloc (.cells #[.int .i64 u,.int .i64 v] 62)).alloc (.cells #[.int .i64 0,.int .i64 0] 62))from((Ext.alloc _ _).trans (Ext.alloc _ _)).trans (Ext.alloc _ _));cases ha:o9 (x,y)
 ·have HA:=ae ha;have HR:=ae (show xk (x,y) (u,v)=((0,0),false)by simp[xk,ha]);clear ha;go_enter Tryz.func242,Tryz.ntmps242
  go_wp2_with fail;refine(aw x y _).mono ?_;rw[HA.o];rintro e w1 ⟨rfl,hx⟩;obtain⟨I,G,E⟩:=wh hx;obtain⟨a0,a1,Q⟩:=ah I;obtain⟨b0,b1,fb⟩:=ah G;obtain⟨K,J,O⟩:=ah E;have X1:=ae hx;clear hx I G E
  go_wp2
  rw[HR.o];refine bodyPost_ret (v:=.tuple #[.agg #[.int .i64 0,.int .i64 0],.bool false]) (by simp[results,Tryz.results242,go_sem,K,J]) rfl ⟨rfl,?_⟩;exact((HX.o.trans X1.o).setCell (by simp;omega) _).setCell (by simp;omega) _
 cases hb:o9 (u,v)
 ·have HA:=ae ha;have HB:=ae hb;have HR:=ae (show xk (x,y) (u,v)=((0,0),false)by simp[xk,hb]);clear ha hb;go_enter Tryz.func242,Tryz.ntmps242
  go_wp2_with fail;refine(aw x y _).mono ?_;rw[HA.o];rintro e w1 ⟨rfl,hx⟩;obtain⟨I,G,E⟩:=wh hx;obtain⟨a0,a1,Q⟩:=ah I;obtain⟨b0,b1,fb⟩:=ah G;obtain⟨K,J,O⟩:=ah E;have X1:=ae hx;clear hx I G E;go_wp2_with fail;refine(aw u v _).mono ?_;rw[HB.o];rintro e w2 ⟨rfl,hx⟩;clear a0 a1 Q b0 b1 fb K J O;have X2:=ae (X1.o.trans hx);obtain⟨I,G,E⟩:=wh X2.o;obtain⟨a0,a1,Q⟩:=ah I;obtain⟨b0,b1,fb⟩:=ah G;obtain⟨K,J,O⟩:=ah E;clear hx I G E
  go_wp2
  rw[HR.o];refine bodyPost_ret (v:=.tuple #[.agg #[.int .i64 0,.int .i64 0],.bool false]) (by simp[results,Tryz.results242,go_sem,K,J]) rfl ⟨rfl,?_⟩;exact((HX.o.trans X2.o).setCell (by simp;omega) _).setCell (by simp;omega) _
 have HA:=ae ha;have HB:=ae hb;obtain⟨x1,x2,y1,y2⟩:=df ha;obtain⟨u1,u2,v1,v2⟩:=df hb;have q1:vu (x*v):=dt e7 e7;obtain⟨e1,g1⟩:=bj q1;have Z:vu (y*u):=dt e7 e7;obtain⟨e2,g2⟩:=bj Z;obtain⟨p,q,ok,U⟩:∃p q ok,az (x*v) (y*u)=((p,q),ok):=⟨_,_,_,rfl⟩;have wI:=ae U;have HR:=ae (show xk (x,y) (u,v)=((p,q),ok)by simp[xk,ha,hb,U]);clear ha hb U
 ·go_enter Tryz.func242,Tryz.ntmps242
  go_wp2_with fail;refine(aw x y _).mono ?_;rw[HA.o];rintro e w1 ⟨rfl,hx⟩;obtain⟨I,G,E⟩:=wh hx;obtain⟨a0,a1,Q⟩:=ah I;obtain⟨b0,b1,fb⟩:=ah G;obtain⟨K,J,O⟩:=ah E;have X1:=ae hx;clear hx I G E;go_wp2_with fail;refine(aw u v _).mono ?_;rw[HB.o];rintro e w2 ⟨rfl,hx⟩;clear a0 a1 Q b0 b1 fb K J O;have X2:=ae (X1.o.trans hx);obtain⟨I,G,E⟩:=wh X2.o;obtain⟨a0,a1,Q⟩:=ah I;obtain⟨b0,b1,fb⟩:=ah G;obtain⟨K,J,O⟩:=ah E;clear hx I G E;go_wp2_with fail;refine(jO _ _ _).mono ?_;rw[wI.o];rintro e w3 ⟨rfl,hx⟩;clear a0 a1 Q b0 b1 fb K J O;have X3:=ae (X2.o.trans hx);obtain⟨I,G,E⟩:=wh X3.o;obtain⟨a0,a1,Q⟩:=ah I;obtain⟨b0,b1,fb⟩:=ah G;obtain⟨K,J,O⟩:=ah E;clear hx I G E
  go_wp2
  rw[HR.o];refine bodyPost_ret (v:=.tuple #[.agg #[.int .i64 p,.int .i64 q],.bool ok]) (by simp[results,Tryz.results242,go_sem,K,J]) rfl ⟨rfl,?_⟩;exact((HX.o.trans X3.o).setCell (by simp;omega) _).setCell (by simp;omega) _
theorem gS(x y u v:Int)(w:World):
 Calls Tryz.prog 73 #[wk x y,wk u v] w fun e w'=>e=.returned (.int .i64 (vP (x,y) (u,v)))/\Ext w w':=by
 have HX:=ae (show Ext w ((w.alloc (.cells #[.int .i64 x,.int .i64 y] 62)).alloc (.cells #[.int .i64 u,.int .i64 v] 62))from(Ext.alloc _ _).trans (Ext.alloc _ _));cases ha:o9 (x,y)
 ·have HA:=ae ha;have HR:=ae (show vP (x,y) (u,v)=0 by simp[vP,ha]);clear ha;go_enter Tryz.func73,Tryz.ntmps73
  go_wp2_with fail;refine(ap x y _).mono ?_;rw[HA.o];rintro e w1 ⟨rfl,hx⟩;obtain⟨G,E⟩:=zL hx;obtain⟨a0,a1,I⟩:=ah G;obtain⟨b0,b1,fb⟩:=ah E;have X1:=ae hx;clear hx G E
  go_wp2
  go_ret;exact⟨aD HR.o.symm,HX.o.trans X1.o⟩
 cases hb:o9 (u,v)
 ·have HA:=ae ha;have HB:=ae hb;have HR:=ae (show vP (x,y) (u,v)=0 by simp[vP,hb]);clear ha hb;go_enter Tryz.func73,Tryz.ntmps73
  go_wp2_with fail;refine(ap x y _).mono ?_;rw[HA.o];rintro e w1 ⟨rfl,hx⟩;obtain⟨G,E⟩:=zL hx;obtain⟨a0,a1,I⟩:=ah G;obtain⟨b0,b1,fb⟩:=ah E;have X1:=ae hx;clear hx G E;go_wp2_with fail;refine(ap u v _).mono ?_;rw[HB.o];rintro e w2 ⟨rfl,hx⟩;clear a0 a1 I b0 b1 fb;have X2:=ae (X1.o.trans hx);obtain⟨G,E⟩:=zL X2.o;obtain⟨a0,a1,I⟩:=ah G;obtain⟨b0,b1,fb⟩:=ah E;clear hx G E
  go_wp2
  go_ret;exact⟨aD HR.o.symm,HX.o.trans X2.o⟩
 have HA:=ae ha;have HB:=ae hb;obtain⟨x1,x2,y1,y2⟩:=df ha;obtain⟨u1,u2,v1,v2⟩:=df hb;have q1:vu (x*v):=dt e7 e7;have U:vu (u*y):=dt e7 e7;obtain⟨e1,g1⟩:=bj q1;obtain⟨e2,g2⟩:=bj U;have O:vP (x,y) (u,v)=(if x*v<u*y then -1 else if u*y<x*v then 1 else 0):=by simp[vP,ha,hb]
 obtain⟨P,K⟩:=b9 (x*v);obtain⟨Q,J⟩:=b9 (u*y);rw[<-K,<-J]at O;rw[<-K]at e1 g1;rw[<-J]at e2 g2;have HR:=ae O;have hP':=K.symm;have hQ':=J.symm;clear ha hb O q1 U K J;by_cases h1:P<Q
 ·go_enter Tryz.func73,Tryz.ntmps73
  go_wp2_with fail;refine(ap x y _).mono ?_;rw[HA.o];rintro e w1 ⟨rfl,hx⟩;obtain⟨G,E⟩:=zL hx;obtain⟨a0,a1,I⟩:=ah G;obtain⟨b0,b1,fb⟩:=ah E;have X1:=ae hx;clear hx G E;go_wp2_with fail;refine(ap u v _).mono ?_;rw[HB.o];rintro e w2 ⟨rfl,hx⟩;clear a0 a1 I b0 b1 fb;have X2:=ae (X1.o.trans hx);obtain⟨G,E⟩:=zL X2.o;obtain⟨a0,a1,I⟩:=ah G;obtain⟨b0,b1,fb⟩:=ah E;clear hx G E
  go_wp2
  go_quiet (fail)
  go_wp2
  go_ret;exact⟨aD (by rw[HR.o,if_pos e7]),HX.o.trans (X2.o.trans (yU.ext ⟨_,rfl⟩))⟩
 by_cases h2:Q<P
 ·go_enter Tryz.func73,Tryz.ntmps73
  go_wp2_with fail;refine(ap x y _).mono ?_;rw[HA.o];rintro e w1 ⟨rfl,hx⟩;obtain⟨G,E⟩:=zL hx;obtain⟨a0,a1,I⟩:=ah G;obtain⟨b0,b1,fb⟩:=ah E;have X1:=ae hx;clear hx G E;go_wp2_with fail;refine(ap u v _).mono ?_;rw[HB.o];rintro e w2 ⟨rfl,hx⟩;clear a0 a1 I b0 b1 fb;have X2:=ae (X1.o.trans hx);obtain⟨G,E⟩:=zL X2.o;obtain⟨a0,a1,I⟩:=ah G;obtain⟨b0,b1,fb⟩:=ah E;clear hx G E
  go_wp2
  go_quiet (fail)
  go_wp2
  go_ret;exact⟨aD (by rw[HR.o,if_neg e7,if_pos e7]),HX.o.trans (X2.o.trans (yU.ext ⟨_,rfl⟩))⟩
 ·go_enter Tryz.func73,Tryz.ntmps73
  go_wp2_with fail;refine(ap x y _).mono ?_;rw[HA.o];rintro e w1 ⟨rfl,hx⟩;obtain⟨G,E⟩:=zL hx;obtain⟨a0,a1,I⟩:=ah G;obtain⟨b0,b1,fb⟩:=ah E;have X1:=ae hx;clear hx G E;go_wp2_with fail;refine(ap u v _).mono ?_;rw[HB.o];rintro e w2 ⟨rfl,hx⟩;clear a0 a1 I b0 b1 fb;have X2:=ae (X1.o.trans hx);obtain⟨G,E⟩:=zL X2.o;obtain⟨a0,a1,I⟩:=ah G;obtain⟨b0,b1,fb⟩:=ah E;clear hx G E
  go_wp2
  go_quiet (fail)
  go_wp2
  go_ret;exact⟨aD (by rw[HR.o,if_neg e7,if_neg e7]),HX.o.trans (X2.o.trans (yU.ext ⟨_,rfl⟩))⟩
theorem gZ(x y u v:Int)(w:World):
 Calls Tryz.prog 219 #[wk x y,wk u v] w fun e w'=>e=.returned (.int .i64 (vP (x,y) (u,v)))/\Ext w w':=by
 have HX:=ae (show Ext w ((w.alloc (.cells #[.int .i64 x,.int .i64 y] 62)).alloc (.cells #[.int .i64 u,.int .i64 v] 62))from(Ext.alloc _ _).trans (Ext.alloc _ _));cases ha:o9 (x,y)
 ·have HA:=ae ha;have HR:=ae (show vP (x,y) (u,v)=0 by simp[vP,ha]);clear ha;go_enter Tryz.func219,Tryz.ntmps219
  go_wp2_with fail;refine(aw x y _).mono ?_;rw[HA.o];rintro e w1 ⟨rfl,hx⟩;obtain⟨G,E⟩:=zL hx;obtain⟨a0,a1,I⟩:=ah G;obtain⟨b0,b1,fb⟩:=ah E;have X1:=ae hx;clear hx G E
  go_wp2
  go_ret;exact⟨aD HR.o.symm,HX.o.trans X1.o⟩
 cases hb:o9 (u,v)
 ·have HA:=ae ha;have HB:=ae hb;have HR:=ae (show vP (x,y) (u,v)=0 by simp[vP,hb]);clear ha hb;go_enter Tryz.func219,Tryz.ntmps219
  go_wp2_with fail;refine(aw x y _).mono ?_;rw[HA.o];rintro e w1 ⟨rfl,hx⟩;obtain⟨G,E⟩:=zL hx;obtain⟨a0,a1,I⟩:=ah G;obtain⟨b0,b1,fb⟩:=ah E;have X1:=ae hx;clear hx G E;go_wp2_with fail;refine(aw u v _).mono ?_;rw[HB.o];rintro e w2 ⟨rfl,hx⟩;clear a0 a1 I b0 b1 fb;have X2:=ae (X1.o.trans hx);obtain⟨G,E⟩:=zL X2.o;obtain⟨a0,a1,I⟩:=ah G;obtain⟨b0,b1,fb⟩:=ah E;clear hx G E
  go_wp2
  go_ret;exact⟨aD HR.o.symm,HX.o.trans X2.o⟩
 have HA:=ae ha;have HB:=ae hb;obtain⟨x1,x2,y1,y2⟩:=df ha;obtain⟨u1,u2,v1,v2⟩:=df hb;have q1:vu (x*v):=dt e7 e7;have U:vu (u*y):=dt e7 e7;obtain⟨e1,g1⟩:=bj q1;obtain⟨e2,g2⟩:=bj U;have O:vP (x,y) (u,v)=(if x*v<u*y then -1 else if u*y<x*v then 1 else 0):=by simp[vP,ha,hb]
 obtain⟨P,K⟩:=b9 (x*v);obtain⟨Q,J⟩:=b9 (u*y);rw[<-K,<-J]at O;rw[<-K]at e1 g1;rw[<-J]at e2 g2;have HR:=ae O;have hP':=K.symm;have hQ':=J.symm;clear ha hb O q1 U K J;by_cases h1:P<Q
 ·go_enter Tryz.func219,Tryz.ntmps219
  go_wp2_with fail;refine(aw x y _).mono ?_;rw[HA.o];rintro e w1 ⟨rfl,hx⟩;obtain⟨G,E⟩:=zL hx;obtain⟨a0,a1,I⟩:=ah G;obtain⟨b0,b1,fb⟩:=ah E;have X1:=ae hx;clear hx G E;go_wp2_with fail;refine(aw u v _).mono ?_;rw[HB.o];rintro e w2 ⟨rfl,hx⟩;clear a0 a1 I b0 b1 fb;have X2:=ae (X1.o.trans hx);obtain⟨G,E⟩:=zL X2.o;obtain⟨a0,a1,I⟩:=ah G;obtain⟨b0,b1,fb⟩:=ah E;clear hx G E
  go_wp2
  go_ret;exact⟨aD (by rw[HR.o,if_pos e7]),HX.o.trans X2.o⟩
 by_cases h2:Q<P
 ·go_enter Tryz.func219,Tryz.ntmps219
  go_wp2_with fail;refine(aw x y _).mono ?_;rw[HA.o];rintro e w1 ⟨rfl,hx⟩;obtain⟨G,E⟩:=zL hx;obtain⟨a0,a1,I⟩:=ah G;obtain⟨b0,b1,fb⟩:=ah E;have X1:=ae hx;clear hx G E;go_wp2_with fail;refine(aw u v _).mono ?_;rw[HB.o];rintro e w2 ⟨rfl,hx⟩;clear a0 a1 I b0 b1 fb;have X2:=ae (X1.o.trans hx);obtain⟨G,E⟩:=zL X2.o;obtain⟨a0,a1,I⟩:=ah G;obtain⟨b0,b1,fb⟩:=ah E;clear hx G E
  go_wp2
  go_ret;exact⟨aD (by rw[HR.o,if_neg e7,if_pos e7]),HX.o.trans X2.o⟩
 ·go_enter Tryz.func219,Tryz.ntmps219
  go_wp2_with fail;refine(aw x y _).mono ?_;rw[HA.o];rintro e w1 ⟨rfl,hx⟩;obtain⟨G,E⟩:=zL hx;obtain⟨a0,a1,I⟩:=ah G;obtain⟨b0,b1,fb⟩:=ah E;have X1:=ae hx;clear hx G E;go_wp2_with fail;refine(aw u v _).mono ?_;rw[HB.o];rintro e w2 ⟨rfl,hx⟩;clear a0 a1 I b0 b1 fb;have X2:=ae (X1.o.trans hx);obtain⟨G,E⟩:=zL X2.o;obtain⟨a0,a1,I⟩:=ah G;obtain⟨b0,b1,fb⟩:=ah E;clear hx G E
  go_wp2
  go_ret;exact⟨aD (by rw[HR.o,if_neg e7,if_neg e7]),HX.o.trans X2.o⟩
theorem pS(x y u v:Int)(w:World):
 Calls Tryz.prog 180 #[wk x y,wk u v] w fun e w'=>e=.returned (Bq (vD (x,y) (u,v)))/\Ext w w':=by
 have HX:=ae (show Ext w (((w.alloc (.cells #[.int .i64 x,.int .i64 y] 62)).alloc (.cells #[.int .i64 u,.int .i64 v] 62)).alloc (.cells #[.int .i64 0,.int .i64 0] 62))from((Ext.alloc _ _).trans (Ext.alloc _ _)).trans (Ext.alloc _ _));cases hb:o9 (u,v)
 ·have HB:=ae hb;have HR:=ae (show vD (x,y) (u,v)=((0,0),false)by simp[vD,hb]);clear hb;go_enter Tryz.func180,Tryz.ntmps180
  go_wp2_with fail;refine(aw u v _).mono ?_;rw[HB.o];rintro e w1 ⟨rfl,hx⟩;obtain⟨G,K,E⟩:=wh hx;obtain⟨a0,a1,U⟩:=ah G;obtain⟨b0,b1,fb⟩:=ah K;obtain⟨J,I,Q⟩:=ah E;have X1:=ae hx;clear hx G K E
  go_wp2
  rw[HR.o];refine bodyPost_ret (v:=.tuple #[.agg #[.int .i64 0,.int .i64 0],.bool false]) (by simp[results,Tryz.results180,go_sem,J,I]) rfl ⟨rfl,?_⟩;exact((HX.o.trans X1.o).setCell (by simp;omega) _).setCell (by simp;omega) _
 ·have HB:=ae hb;obtain⟨u1,u2,v1,v2⟩:=df hb;obtain⟨p,q,ok,O⟩:∃p q ok,we (x,y) (-u,v)=((p,q),ok):=⟨_,_,_,rfl⟩;have wI:=ae O;have HR:=ae (show vD (x,y) (u,v)=((p,q),ok)by rw[<-qk];exact O);clear hb O;go_enter Tryz.func180,Tryz.ntmps180
  go_wp2_with fail;refine(aw u v _).mono ?_;rw[HB.o];rintro e w1 ⟨rfl,hx⟩;obtain⟨G,K,E⟩:=wh hx;obtain⟨a0,a1,U⟩:=ah G;obtain⟨b0,b1,fb⟩:=ah K;obtain⟨J,I,Q⟩:=ah E;have X1:=ae hx;have HBA:=ae G;have Z:=ae E;have hl:=lt_of_block E;clear hx G K E;go_wp2_with fail;refine(gY _ _ _ _ _).mono ?_;rw[wI.o];rintro e w3 ⟨rfl,hx⟩;have hz:Ext w (w1.setCell ⟨w.heap.size+1,0,none⟩ (.int .i64 (-u))):=(HX.o.trans X1.o).setCell e8 _;have X3:=ae (hz.trans hx);clear hz;have E:w3.heap[w.heap.size+1+1]?=some (.cells #[.int .i64 0,.int .i64 0] 62 (0,0)):=(hx.block _ (by simp;omega)).trans ((heap_setCell_other _ _ _ _ e8).trans Z.o);clear a0 a1 U b0 b1 fb J I Q;obtain⟨J,I,Q⟩:=ah E;clear hx E
  go_wp2
  rw[HR.o];refine bodyPost_ret (v:=.tuple #[.agg #[.int .i64 p,.int .i64 q],.bool ok]) (by simp[results,Tryz.results180,go_sem,J,I]) rfl ⟨rfl,?_⟩;exact(X3.o.setCell (by simp;omega) _).setCell (by simp;omega) _
section
variable{w0 w:World}{cb:Nat}{a':j6}{n' c':Nat}{C:j7}{base:Nat}{a:j6}{n cap:Nat}
end
theorem Ints.zp(w:World)(x:Int)(t:TypeId)(n:Nat)(hn:n=w.heap.size):Ints (w.alloc (.cells #[.int .i64 x] t)) (some ⟨n,0,none⟩) 1 1 [x]:=by
 subst hn;exact Ints.one w x t
theorem o5.wJ(w:World)(base n:Nat)(hn:n=w.heap.size)(hb:base<=w.heap.size):o5 (w.alloc (.cells #[] 3)) base (.slice (some ⟨n,0,none⟩) 0 0) []:=by
 subst hn;exact o5.made w base hb
structure ag(w W:World)(g:Nat)(p q:Int):Prop where
 ext:Ext w W
 ge:w.heap.size<=g
 cell:W.heap[g]?=some (.cells #[.int .i64 p,.int .i64 q] 62 (0,0))
theorem ag.lt{p q:Int}(h:ag w W g p q):g<W.heap.size:=lt_of_block h.cell
theorem ag.grow{E:World}{p q:Int}(h:ag w W g p q)(hx:Ext W E):ag w E g p q :=
 ⟨h.ext.trans hx,h.ge,(hx.block _ h.lt).trans h.cell⟩
theorem ag.c0{p q:Int}(h:ag w W g p q):W.cell? ⟨g,0,none⟩=some (.int .i64 p):=(ah h.cell).1
theorem ag.c1{p q:Int}(h:ag w W g p q):W.cell? ⟨g,1,none⟩=some (.int .i64 q):=(ah h.cell).2.1
theorem ag.free{p q:Int}(h:ag w W g p q)(o:Nat):W.frozen? ⟨g,o,none⟩=false:=(ah h.cell).2.2 o
theorem ag.new(h:Ext w W)(p q:Int):ag w (W.alloc (.cells #[.int .i64 p,.int .i64 q] 62)) W.heap.size p q :=
 ⟨h.trans (Ext.alloc _ _),h.size,heap_alloc_new _ _⟩
theorem ag.new'(h:Ext w W)(p q:Int){n:Nat}(hn:n=W.heap.size):ag w (W.alloc (.cells #[.int .i64 p,.int .i64 q] 62)) n p q:=by
 subst hn;exact ag.new h p q
theorem ag.put{p q:Int}(h:ag w W g p q)(G E:Int):ag w ((W.setCell ⟨g,0,none⟩ (.int .i64 G)).setCell ⟨g,1,none⟩ (.int .i64 E)) g G E :=
 ⟨(h.ext.setCell (p:=⟨g,0,none⟩) h.ge (.int .i64 G)).setCell (p:=⟨g,1,none⟩) h.ge (.int .i64 E),h.ge,by rw[heap_setCell_same _ _ _ _ _ _ (heap_setCell_same _ _ _ _ _ _ h.cell)];rfl⟩
theorem ag.vm{w':World}(h:Ext (w.alloc (.cells #[.int .i64 0,.int .i64 0] 62)).drew w'):ag w w' w.heap.size 0 0 :=
 ag.grow ⟨(Ext.alloc _ _).trans (Ext.drew _),Nat.le_refl _,heap_alloc_new w _⟩ h
theorem ag.vq{w':World}(h:Ext w W)(hx:Ext (W.alloc (.cells #[.int .i64 0,.int .i64 0] 62)) w'):ag w w' W.heap.size 0 0 :=
 ag.grow (ag.new h 0 0) hx
def runT(f:Nat->Option (Int×Int)):Nat->Option (j4)
 | 0=>some []
 | m+1=>(runT f m).bind fun l=>(f m).map fun x=>l++[x]
theorem ec{r:j4}{x:j8}(h:runT f k=some r)(hx:f k=some x):runT f (k+1)=some (r++[x]):=by simp[runT,h,hx]
theorem lX(h:runT f k=none):∀{n:Nat},k<=n->runT f n=none
 | n,hn=>by
   obtain⟨d,rfl⟩:∃d,n=k+d:=⟨n-k,by omega⟩;clear hn
   induction d with
   | zero=>exact h
   | succ d ih=>show(runT f (k+d)).bind _=none;rw[ih];rfl
theorem fQ{n:Nat}{r:j4}(h:runT f k=some r)(hx:f k=none)(hn:k<n):runT f n=none :=
 lX (k:=k+1) (by simp[runT,h,hx]) e7
theorem dp{f:Nat->Option (Int×Int)}:∀{k:Nat} {r:j4},runT f k=some r->r.length=k
 | 0,r,h=>by simp only[runT,Option.some.injEq]at h;rw[<-h];rfl
 | k+1,r,h=>by
   cases hk:runT f k with
   | none=>simp[runT,hk]at h
   | some l =>
     cases hf:f k with
     | none=>simp[runT,hk,hf]at h
     | some x =>
       rw[ec hk hf]at h;simp only[Option.some.injEq]at h;rw[<-h,List.length_append,dp hk]
       rfl
theorem jN{f:Nat->Option (Int×Int)}:∀{k:Nat} {r:j4},runT f k=some r->∀i,i<k->f i=some (r[i]?.getD (0,0))
 | 0,r,h=>fun i hi=>absurd hi e7
 | k+1,r,h=>fun i hi=>by
   cases hk:runT f k with
   | none=>simp[runT,hk]at h
   | some l =>
     cases hf:f k with
     | none=>simp[runT,hk,hf]at h
     | some x =>
       rw[ec hk hf]at h;simp only[Option.some.injEq]at h;subst h;have hl:=dp hk;by_cases Kb:i<k
       ·rw[List.getElem?_append_left e7];exact jN hk i Kb
       ·obtain rfl:i=k:=by omega
        rw[<-hl,List.getElem?_concat_length,Option.getD_some,hl,hf]
theorem pI{f:Nat->Option (Int×Int)}{F:Nat->j8}:∀{k:Nat},(∀i,i<k->f i=some (F i))->runT f k=some ((List.range k).map F)
 | 0,_=>rfl
 | k+1,h=>by
   rw[ec (pI fun i hi=>h i e7) (h k e7),List.range_succ,List.map_append]
   rfl
def BN(A:j4)(k:j8)(B:j4)(i:Nat):Option (Int×Int) :=
 if(mulR k (B[i]?.getD (0,0))).2=true/\(we (A[i]?.getD (0,0)) (mulR k (B[i]?.getD (0,0))).1).2=true then some (we (A[i]?.getD (0,0)) (mulR k (B[i]?.getD (0,0))).1).1 else none
def xP(A:j4)(k:j8)(B:j4):Option (j4):=if A.length=B.length then runT (BN A k B) A.length else none
def ar(C:j7):j4:=C.map fun c=>(c,1)
theorem et(C:j7):(ar C).length=C.length:=by simp[ar]
theorem jH{C:j7}(h:k<C.length):(ar C)[k]?.getD (0,0)=(C[k]?.getD 0,1):=by simp[ar,h]
def Ba(C:j7):Bool:=C.all fun c=>r' c (-1000000000) 1000000000
end Go.Proofs.YtdadoignenffgaaGreatDoor
