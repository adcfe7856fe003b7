import Derived.Test.YthjjfkeacobikaaGreatPuAllG3
import Derived.Test.YthjjfkeacobikaaGreatPuAllG2
import Derived.Deep.RegionHeld3
import Derived.Deep.RegionLaw
import Derived.StillTailTactics
set_option linter.unusedVariables false
set_option linter.unusedSimpArgs false
namespace Go.Proofs.YthjjfkeacobikaaGreat
set_option maxRecDepth 100000
open Go.RowKit
theorem box3 {w W:World} {a b c:Obj} (hx:Ext (((w.alloc a).alloc b).alloc c) W):W.heap[w.heap.size]?=some a/\W.heap[w.heap.size+1]?=some b/\W.heap[w.heap.size+1+1]?=some c :=
 ⟨(hx.block _ (by simp;omega)).trans (by rw [bz _ _ _ (by simp;omega),bz _ _ _ (by simp)];exact aj _ _ _ rfl),
  (hx.block _ (by simp)).trans (by rw [bz _ _ _ (by simp)];exact aj _ _ _ (by simp)),(hx.block _ (by simp)).trans (aj _ _ _ (by simp))⟩
theorem box2 {w W:World} {a b:Obj} (hx:Ext ((w.alloc a).alloc b) W):W.heap[w.heap.size]?=some a/\W.heap[w.heap.size+1]?=some b :=
 ⟨(hx.block _ (by simp;omega)).trans (by rw [bz _ _ _ (by simp)];exact aj _ _ _ rfl),(hx.block _ (by simp)).trans (aj _ _ _ (by simp))⟩
theorem ai {w:World} {b:Nat} {x y:Int} {t:TypeId} (h:w.heap[b]?=some (.cells #[.int .i64 x,.int .i64 y] t (0,0))):w.cell? ⟨b,0,none⟩=some (.int .i64 x)/\w.cell? ⟨b,1,none⟩=some (.int .i64 y)/\∀ o,w.frozen? ⟨b,o,none⟩=false :=
 ⟨by rw [cell_of_row _ _ _ _ _ _ h];rfl,by rw [cell_of_row _ _ _ _ _ _ h];rfl,fun o=>frozen_of_row _ _ _ _ _ h⟩
theorem cX {x y:Int} (h:valR (x,y)=true):-1000000000<=x/\x<=1000000000/\-1000000000<=y/\y<=1000000000:=by have:=bh h;simp only at this;omega
theorem de {x y:Int} (h:-1000000000<=x/\x<=1000000000) (h':-1000000000<=y/\y<=1000000000):in18 (x*y):=mul_bd h.1 h.2 h'.1 h'.2
set_option maxHeartbeats 1000000 in
theorem lO (x y u v:Int) (w:World) :
 Calls Tryz.prog 169 #[ratV x y,ratV u v] w fun e w'=>e=.returned (resR (addR (x,y) (u,v)))/\Ext w w':=by
 have HX:=ae (show Ext w (((w.alloc (.cells #[.int .i64 x,.int .i64 y] 43)).alloc (.cells #[.int .i64 u,.int .i64 v] 43)).alloc (.cells #[.int .i64 0,.int .i64 0] 43)) from ((Ext.alloc _ _).trans (Ext.alloc _ _)).trans (Ext.alloc _ _));cases ha:valR (x,y)
 ·have HA:=ae ha;have HR:=ae (show addR (x,y) (u,v)=((0,0),false) by simp [addR,ha]);clear ha;go_enter Tryz.func169,Tryz.ntmps169
  go_wp2_with fail;refine (av x y _).mono ?_;rw [HA.out];rintro e w1 ⟨rfl,hx⟩;obtain ⟨bA,bB,bR⟩:=box3 hx;obtain ⟨a0,a1,fa⟩:=ai bA;obtain ⟨b0,b1,fb⟩:=ai bB;obtain ⟨r0,r1,fr⟩:=ai bR;have X1:=ae hx;clear hx bA bB bR
  go_wp2
  rw [HR.out];refine bodyPost_ret (v:=.tuple #[.agg #[.int .i64 0,.int .i64 0],.bool false]) (by simp [results,Tryz.results169,go_sem,r0,r1]) rfl ⟨rfl,?_⟩;exact ((HX.out.trans X1.out).setCell (by simp;omega) _).setCell (by simp;omega) _
 cases hb:valR (u,v)
 ·have HA:=ae ha;have HB:=ae hb;have HR:=ae (show addR (x,y) (u,v)=((0,0),false) by simp [addR,hb]);clear ha hb;go_enter Tryz.func169,Tryz.ntmps169
  go_wp2_with fail;refine (av x y _).mono ?_;rw [HA.out];rintro e w1 ⟨rfl,hx⟩;obtain ⟨bA,bB,bR⟩:=box3 hx;obtain ⟨a0,a1,fa⟩:=ai bA;obtain ⟨b0,b1,fb⟩:=ai bB;obtain ⟨r0,r1,fr⟩:=ai bR;have X1:=ae hx;clear hx bA bB bR;go_wp2_with fail;refine (av u v _).mono ?_;rw [HB.out];rintro e w2 ⟨rfl,hx⟩;clear a0 a1 fa b0 b1 fb r0 r1 fr;have X2:=ae (X1.out.trans hx);obtain ⟨bA,bB,bR⟩:=box3 X2.out;obtain ⟨a0,a1,fa⟩:=ai bA;obtain ⟨b0,b1,fb⟩:=ai bB;obtain ⟨r0,r1,fr⟩:=ai bR;clear hx bA bB bR
  go_wp2
  rw [HR.out];refine bodyPost_ret (v:=.tuple #[.agg #[.int .i64 0,.int .i64 0],.bool false]) (by simp [results,Tryz.results169,go_sem,r0,r1]) rfl ⟨rfl,?_⟩;exact ((HX.out.trans X2.out).setCell (by simp;omega) _).setCell (by simp;omega) _
 have HA:=ae ha;have HB:=ae hb;obtain ⟨x1,x2,y1,y2⟩:=cX ha;obtain ⟨u1,u2,v1,v2⟩:=cX hb;have q1:in18 (x*v):=de (by omega) (by omega);obtain ⟨e1,g1⟩:=bu q1;have q2:in18 (u*y):=de (by omega) (by omega);obtain ⟨e2,g2⟩:=bu q2;have q3:in18 (y*v):=de (by omega) (by omega);obtain ⟨e3,g3⟩:=bu q3;have e4:IntKind.i64.wrap (x*v+u*y)=x*v+u*y:=by rw [IntKind.wrap_i64];unfold in18 at *;omega
 have g4:wrap64 (x*v+u*y)=x*v+u*y:=by unfold wrap64;unfold in18 at *;omega
 obtain ⟨p,q,ok,hpq⟩:∃ p q ok,aD (x*v+u*y) (y*v)=((p,q),ok):=⟨_,_,_,rfl⟩;have HPQ:=ae hpq;have HR:=ae (show addR (x,y) (u,v)=((p,q),ok) by simp [addR,ha,hb,hpq]);clear ha hb hpq
 ·go_enter Tryz.func169,Tryz.ntmps169
  go_wp2_with fail;refine (av x y _).mono ?_;rw [HA.out];rintro e w1 ⟨rfl,hx⟩;obtain ⟨bA,bB,bR⟩:=box3 hx;obtain ⟨a0,a1,fa⟩:=ai bA;obtain ⟨b0,b1,fb⟩:=ai bB;obtain ⟨r0,r1,fr⟩:=ai bR;have X1:=ae hx;clear hx bA bB bR;go_wp2_with fail;refine (av u v _).mono ?_;rw [HB.out];rintro e w2 ⟨rfl,hx⟩;clear a0 a1 fa b0 b1 fb r0 r1 fr;have X2:=ae (X1.out.trans hx);obtain ⟨bA,bB,bR⟩:=box3 X2.out;obtain ⟨a0,a1,fa⟩:=ai bA;obtain ⟨b0,b1,fb⟩:=ai bB;obtain ⟨r0,r1,fr⟩:=ai bR;clear hx bA bB bR;go_wp2_with fail;refine (iD _ _ _).mono ?_;rw [HPQ.out];rintro e w3 ⟨rfl,hx⟩;clear a0 a1 fa b0 b1 fb r0 r1 fr;have X3:=ae (X2.out.trans hx);obtain ⟨bA,bB,bR⟩:=box3 X3.out;obtain ⟨a0,a1,fa⟩:=ai bA;obtain ⟨b0,b1,fb⟩:=ai bB;obtain ⟨r0,r1,fr⟩:=ai bR;clear hx bA bB bR
  go_wp2
  rw [HR.out];refine bodyPost_ret (v:=.tuple #[.agg #[.int .i64 p,.int .i64 q],.bool ok]) (by simp [results,Tryz.results169,go_sem,r0,r1]) rfl ⟨rfl,?_⟩;exact ((HX.out.trans X3.out).setCell (by simp;omega) _).setCell (by simp;omega) _
set_option maxHeartbeats 1000000 in
theorem jm (x y u v:Int) (w:World) :
 Calls Tryz.prog 37 #[ratV x y,ratV u v] w fun e w'=>e=.returned (resR (addR (x,y) (u,v)))/\Ext w w':=by
 have HX:=ae (show Ext w (((w.alloc (.cells #[.int .i64 x,.int .i64 y] 43)).alloc (.cells #[.int .i64 u,.int .i64 v] 43)).alloc (.cells #[.int .i64 0,.int .i64 0] 43)) from ((Ext.alloc _ _).trans (Ext.alloc _ _)).trans (Ext.alloc _ _));cases ha:valR (x,y)
 ·have HA:=ae ha;have HR:=ae (show addR (x,y) (u,v)=((0,0),false) by simp [addR,ha]);clear ha;go_enter Tryz.func37,Tryz.ntmps37
  go_wp2_with fail;refine (az x y _).mono ?_;rw [HA.out];rintro e w1 ⟨rfl,hx⟩;obtain ⟨bA,bB,bR⟩:=box3 hx;obtain ⟨a0,a1,fa⟩:=ai bA;obtain ⟨b0,b1,fb⟩:=ai bB;obtain ⟨r0,r1,fr⟩:=ai bR;have X1:=ae hx;clear hx bA bB bR
  go_wp2
  rw [HR.out];refine bodyPost_ret (v:=.tuple #[.agg #[.int .i64 0,.int .i64 0],.bool false]) (by simp [results,Tryz.results37,go_sem,r0,r1]) rfl ⟨rfl,?_⟩;exact ((HX.out.trans X1.out).setCell (by simp;omega) _).setCell (by simp;omega) _
 cases hb:valR (u,v)
 ·have HA:=ae ha;have HB:=ae hb;have HR:=ae (show addR (x,y) (u,v)=((0,0),false) by simp [addR,hb]);clear ha hb;go_enter Tryz.func37,Tryz.ntmps37
  go_wp2_with fail;refine (az x y _).mono ?_;rw [HA.out];rintro e w1 ⟨rfl,hx⟩;obtain ⟨bA,bB,bR⟩:=box3 hx;obtain ⟨a0,a1,fa⟩:=ai bA;obtain ⟨b0,b1,fb⟩:=ai bB;obtain ⟨r0,r1,fr⟩:=ai bR;have X1:=ae hx;clear hx bA bB bR;go_wp2_with fail;refine (az u v _).mono ?_;rw [HB.out];rintro e w2 ⟨rfl,hx⟩;clear a0 a1 fa b0 b1 fb r0 r1 fr;have X2:=ae (X1.out.trans hx);obtain ⟨bA,bB,bR⟩:=box3 X2.out;obtain ⟨a0,a1,fa⟩:=ai bA;obtain ⟨b0,b1,fb⟩:=ai bB;obtain ⟨r0,r1,fr⟩:=ai bR;clear hx bA bB bR
  go_wp2
  rw [HR.out];refine bodyPost_ret (v:=.tuple #[.agg #[.int .i64 0,.int .i64 0],.bool false]) (by simp [results,Tryz.results37,go_sem,r0,r1]) rfl ⟨rfl,?_⟩;exact ((HX.out.trans X2.out).setCell (by simp;omega) _).setCell (by simp;omega) _
 have HA:=ae ha;have HB:=ae hb;obtain ⟨x1,x2,y1,y2⟩:=cX ha;obtain ⟨u1,u2,v1,v2⟩:=cX hb;have q1:in18 (x*v):=de (by omega) (by omega);obtain ⟨e1,g1⟩:=bu q1;have q2:in18 (u*y):=de (by omega) (by omega);obtain ⟨e2,g2⟩:=bu q2;have q3:in18 (y*v):=de (by omega) (by omega);obtain ⟨e3,g3⟩:=bu q3;have e4:IntKind.i64.wrap (x*v+u*y)=x*v+u*y:=by rw [IntKind.wrap_i64];unfold in18 at *;omega
 have g4:wrap64 (x*v+u*y)=x*v+u*y:=by unfold wrap64;unfold in18 at *;omega
 obtain ⟨p,q,ok,hpq⟩:∃ p q ok,aD (x*v+u*y) (y*v)=((p,q),ok):=⟨_,_,_,rfl⟩;have HPQ:=ae hpq;have HR:=ae (show addR (x,y) (u,v)=((p,q),ok) by simp [addR,ha,hb,hpq]);clear ha hb hpq
 ·go_enter Tryz.func37,Tryz.ntmps37
  go_wp2_with fail;refine (az x y _).mono ?_;rw [HA.out];rintro e w1 ⟨rfl,hx⟩;obtain ⟨bA,bB,bR⟩:=box3 hx;obtain ⟨a0,a1,fa⟩:=ai bA;obtain ⟨b0,b1,fb⟩:=ai bB;obtain ⟨r0,r1,fr⟩:=ai bR;have X1:=ae hx;clear hx bA bB bR;go_wp2_with fail;refine (az u v _).mono ?_;rw [HB.out];rintro e w2 ⟨rfl,hx⟩;clear a0 a1 fa b0 b1 fb r0 r1 fr;have X2:=ae (X1.out.trans hx);obtain ⟨bA,bB,bR⟩:=box3 X2.out;obtain ⟨a0,a1,fa⟩:=ai bA;obtain ⟨b0,b1,fb⟩:=ai bB;obtain ⟨r0,r1,fr⟩:=ai bR;clear hx bA bB bR;go_wp2_with fail;refine (iH _ _ _).mono ?_;rw [HPQ.out];rintro e w3 ⟨rfl,hx⟩;clear a0 a1 fa b0 b1 fb r0 r1 fr;have X3:=ae (X2.out.trans hx);obtain ⟨bA,bB,bR⟩:=box3 X3.out;obtain ⟨a0,a1,fa⟩:=ai bA;obtain ⟨b0,b1,fb⟩:=ai bB;obtain ⟨r0,r1,fr⟩:=ai bR;clear hx bA bB bR
  go_wp2
  rw [HR.out];refine bodyPost_ret (v:=.tuple #[.agg #[.int .i64 p,.int .i64 q],.bool ok]) (by simp [results,Tryz.results37,go_sem,r0,r1]) rfl ⟨rfl,?_⟩;exact ((HX.out.trans X3.out).setCell (by simp;omega) _).setCell (by simp;omega) _
set_option maxHeartbeats 1000000 in
theorem je (x y u v:Int) (w:World) :
 Calls Tryz.prog 177 #[ratV x y,ratV u v] w fun e w'=>e=.returned (resR (subR (x,y) (u,v)))/\Ext w w':=by
 have HX:=ae (show Ext w (((w.alloc (.cells #[.int .i64 x,.int .i64 y] 43)).alloc (.cells #[.int .i64 u,.int .i64 v] 43)).alloc (.cells #[.int .i64 0,.int .i64 0] 43)) from ((Ext.alloc _ _).trans (Ext.alloc _ _)).trans (Ext.alloc _ _));cases ha:valR (x,y)
 ·have HA:=ae ha;have HR:=ae (show subR (x,y) (u,v)=((0,0),false) by simp [subR,ha]);clear ha;go_enter Tryz.func177,Tryz.ntmps177
  go_wp2_with fail;refine (av x y _).mono ?_;rw [HA.out];rintro e w1 ⟨rfl,hx⟩;obtain ⟨bA,bB,bR⟩:=box3 hx;obtain ⟨a0,a1,fa⟩:=ai bA;obtain ⟨b0,b1,fb⟩:=ai bB;obtain ⟨r0,r1,fr⟩:=ai bR;have X1:=ae hx;clear hx bA bB bR
  go_wp2
  rw [HR.out];refine bodyPost_ret (v:=.tuple #[.agg #[.int .i64 0,.int .i64 0],.bool false]) (by simp [results,Tryz.results177,go_sem,r0,r1]) rfl ⟨rfl,?_⟩;exact ((HX.out.trans X1.out).setCell (by simp;omega) _).setCell (by simp;omega) _
 cases hb:valR (u,v)
 ·have HA:=ae ha;have HB:=ae hb;have HR:=ae (show subR (x,y) (u,v)=((0,0),false) by simp [subR,hb]);clear ha hb;go_enter Tryz.func177,Tryz.ntmps177
  go_wp2_with fail;refine (av x y _).mono ?_;rw [HA.out];rintro e w1 ⟨rfl,hx⟩;obtain ⟨bA,bB,bR⟩:=box3 hx;obtain ⟨a0,a1,fa⟩:=ai bA;obtain ⟨b0,b1,fb⟩:=ai bB;obtain ⟨r0,r1,fr⟩:=ai bR;have X1:=ae hx;clear hx bA bB bR;go_wp2_with fail;refine (av u v _).mono ?_;rw [HB.out];rintro e w2 ⟨rfl,hx⟩;clear a0 a1 fa b0 b1 fb r0 r1 fr;have X2:=ae (X1.out.trans hx);obtain ⟨bA,bB,bR⟩:=box3 X2.out;obtain ⟨a0,a1,fa⟩:=ai bA;obtain ⟨b0,b1,fb⟩:=ai bB;obtain ⟨r0,r1,fr⟩:=ai bR;clear hx bA bB bR
  go_wp2
  rw [HR.out];refine bodyPost_ret (v:=.tuple #[.agg #[.int .i64 0,.int .i64 0],.bool false]) (by simp [results,Tryz.results177,go_sem,r0,r1]) rfl ⟨rfl,?_⟩;exact ((HX.out.trans X2.out).setCell (by simp;omega) _).setCell (by simp;omega) _
 have HA:=ae ha;have HB:=ae hb;obtain ⟨x1,x2,y1,y2⟩:=cX ha;obtain ⟨u1,u2,v1,v2⟩:=cX hb;have q1:in18 (x*v):=de (by omega) (by omega);obtain ⟨e1,g1⟩:=bu q1;have q2:in18 (u*y):=de (by omega) (by omega);obtain ⟨e2,g2⟩:=bu q2;have q3:in18 (y*v):=de (by omega) (by omega);obtain ⟨e3,g3⟩:=bu q3;have e4:IntKind.i64.wrap (x*v-u*y)=x*v-u*y:=by rw [IntKind.wrap_i64];unfold in18 at *;omega
 have g4:wrap64 (x*v-u*y)=x*v-u*y:=by unfold wrap64;unfold in18 at *;omega
 obtain ⟨p,q,ok,hpq⟩:∃ p q ok,aD (x*v-u*y) (y*v)=((p,q),ok):=⟨_,_,_,rfl⟩;have HPQ:=ae hpq;have HR:=ae (show subR (x,y) (u,v)=((p,q),ok) by simp [subR,ha,hb,hpq]);clear ha hb hpq
 ·go_enter Tryz.func177,Tryz.ntmps177
  go_wp2_with fail;refine (av x y _).mono ?_;rw [HA.out];rintro e w1 ⟨rfl,hx⟩;obtain ⟨bA,bB,bR⟩:=box3 hx;obtain ⟨a0,a1,fa⟩:=ai bA;obtain ⟨b0,b1,fb⟩:=ai bB;obtain ⟨r0,r1,fr⟩:=ai bR;have X1:=ae hx;clear hx bA bB bR;go_wp2_with fail;refine (av u v _).mono ?_;rw [HB.out];rintro e w2 ⟨rfl,hx⟩;clear a0 a1 fa b0 b1 fb r0 r1 fr;have X2:=ae (X1.out.trans hx);obtain ⟨bA,bB,bR⟩:=box3 X2.out;obtain ⟨a0,a1,fa⟩:=ai bA;obtain ⟨b0,b1,fb⟩:=ai bB;obtain ⟨r0,r1,fr⟩:=ai bR;clear hx bA bB bR;go_wp2_with fail;refine (iD _ _ _).mono ?_;rw [HPQ.out];rintro e w3 ⟨rfl,hx⟩;clear a0 a1 fa b0 b1 fb r0 r1 fr;have X3:=ae (X2.out.trans hx);obtain ⟨bA,bB,bR⟩:=box3 X3.out;obtain ⟨a0,a1,fa⟩:=ai bA;obtain ⟨b0,b1,fb⟩:=ai bB;obtain ⟨r0,r1,fr⟩:=ai bR;clear hx bA bB bR
  go_wp2
  rw [HR.out];refine bodyPost_ret (v:=.tuple #[.agg #[.int .i64 p,.int .i64 q],.bool ok]) (by simp [results,Tryz.results177,go_sem,r0,r1]) rfl ⟨rfl,?_⟩;exact ((HX.out.trans X3.out).setCell (by simp;omega) _).setCell (by simp;omega) _
set_option maxHeartbeats 1000000 in
theorem lU (x y u v:Int) (w:World) :
 Calls Tryz.prog 210 #[ratV x y,ratV u v] w fun e w'=>e=.returned (resR (mulR (x,y) (u,v)))/\Ext w w':=by
 have HX:=ae (show Ext w (((w.alloc (.cells #[.int .i64 x,.int .i64 y] 43)).alloc (.cells #[.int .i64 u,.int .i64 v] 43)).alloc (.cells #[.int .i64 0,.int .i64 0] 43)) from ((Ext.alloc _ _).trans (Ext.alloc _ _)).trans (Ext.alloc _ _));cases ha:valR (x,y)
 ·have HA:=ae ha;have HR:=ae (show mulR (x,y) (u,v)=((0,0),false) by simp [mulR,ha]);clear ha;go_enter Tryz.func210,Tryz.ntmps210
  go_wp2_with fail;refine (av x y _).mono ?_;rw [HA.out];rintro e w1 ⟨rfl,hx⟩;obtain ⟨bA,bB,bR⟩:=box3 hx;obtain ⟨a0,a1,fa⟩:=ai bA;obtain ⟨b0,b1,fb⟩:=ai bB;obtain ⟨r0,r1,fr⟩:=ai bR;have X1:=ae hx;clear hx bA bB bR
  go_wp2
  rw [HR.out];refine bodyPost_ret (v:=.tuple #[.agg #[.int .i64 0,.int .i64 0],.bool false]) (by simp [results,Tryz.results210,go_sem,r0,r1]) rfl ⟨rfl,?_⟩;exact ((HX.out.trans X1.out).setCell (by simp;omega) _).setCell (by simp;omega) _
 cases hb:valR (u,v)
 ·have HA:=ae ha;have HB:=ae hb;have HR:=ae (show mulR (x,y) (u,v)=((0,0),false) by simp [mulR,hb]);clear ha hb;go_enter Tryz.func210,Tryz.ntmps210
  go_wp2_with fail;refine (av x y _).mono ?_;rw [HA.out];rintro e w1 ⟨rfl,hx⟩;obtain ⟨bA,bB,bR⟩:=box3 hx;obtain ⟨a0,a1,fa⟩:=ai bA;obtain ⟨b0,b1,fb⟩:=ai bB;obtain ⟨r0,r1,fr⟩:=ai bR;have X1:=ae hx;clear hx bA bB bR;go_wp2_with fail;refine (av u v _).mono ?_;rw [HB.out];rintro e w2 ⟨rfl,hx⟩;clear a0 a1 fa b0 b1 fb r0 r1 fr;have X2:=ae (X1.out.trans hx);obtain ⟨bA,bB,bR⟩:=box3 X2.out;obtain ⟨a0,a1,fa⟩:=ai bA;obtain ⟨b0,b1,fb⟩:=ai bB;obtain ⟨r0,r1,fr⟩:=ai bR;clear hx bA bB bR
  go_wp2
  rw [HR.out];refine bodyPost_ret (v:=.tuple #[.agg #[.int .i64 0,.int .i64 0],.bool false]) (by simp [results,Tryz.results210,go_sem,r0,r1]) rfl ⟨rfl,?_⟩;exact ((HX.out.trans X2.out).setCell (by simp;omega) _).setCell (by simp;omega) _
 have HA:=ae ha;have HB:=ae hb;obtain ⟨x1,x2,y1,y2⟩:=cX ha;obtain ⟨u1,u2,v1,v2⟩:=cX hb;have q1:in18 (x*u):=de (by omega) (by omega);obtain ⟨e1,g1⟩:=bu q1;have q2:in18 (y*v):=de (by omega) (by omega);obtain ⟨e2,g2⟩:=bu q2;obtain ⟨p,q,ok,hpq⟩:∃ p q ok,aD (x*u) (y*v)=((p,q),ok):=⟨_,_,_,rfl⟩;have HPQ:=ae hpq;have HR:=ae (show mulR (x,y) (u,v)=((p,q),ok) by simp [mulR,ha,hb,hpq]);clear ha hb hpq
 ·go_enter Tryz.func210,Tryz.ntmps210
  go_wp2_with fail;refine (av x y _).mono ?_;rw [HA.out];rintro e w1 ⟨rfl,hx⟩;obtain ⟨bA,bB,bR⟩:=box3 hx;obtain ⟨a0,a1,fa⟩:=ai bA;obtain ⟨b0,b1,fb⟩:=ai bB;obtain ⟨r0,r1,fr⟩:=ai bR;have X1:=ae hx;clear hx bA bB bR;go_wp2_with fail;refine (av u v _).mono ?_;rw [HB.out];rintro e w2 ⟨rfl,hx⟩;clear a0 a1 fa b0 b1 fb r0 r1 fr;have X2:=ae (X1.out.trans hx);obtain ⟨bA,bB,bR⟩:=box3 X2.out;obtain ⟨a0,a1,fa⟩:=ai bA;obtain ⟨b0,b1,fb⟩:=ai bB;obtain ⟨r0,r1,fr⟩:=ai bR;clear hx bA bB bR;go_wp2_with fail;refine (iD _ _ _).mono ?_;rw [HPQ.out];rintro e w3 ⟨rfl,hx⟩;clear a0 a1 fa b0 b1 fb r0 r1 fr;have X3:=ae (X2.out.trans hx);obtain ⟨bA,bB,bR⟩:=box3 X3.out;obtain ⟨a0,a1,fa⟩:=ai bA;obtain ⟨b0,b1,fb⟩:=ai bB;obtain ⟨r0,r1,fr⟩:=ai bR;clear hx bA bB bR
  go_wp2
  rw [HR.out];refine bodyPost_ret (v:=.tuple #[.agg #[.int .i64 p,.int .i64 q],.bool ok]) (by simp [results,Tryz.results210,go_sem,r0,r1]) rfl ⟨rfl,?_⟩;exact ((HX.out.trans X3.out).setCell (by simp;omega) _).setCell (by simp;omega) _
set_option maxHeartbeats 1000000 in
theorem mE (x y u v:Int) (w:World) :
 Calls Tryz.prog 211 #[ratV x y,ratV u v] w fun e w'=>e=.returned (resR (mulR (x,y) (u,v)))/\Ext w w':=by
 have HX:=ae (show Ext w (((w.alloc (.cells #[.int .i64 x,.int .i64 y] 43)).alloc (.cells #[.int .i64 u,.int .i64 v] 43)).alloc (.cells #[.int .i64 0,.int .i64 0] 43)) from ((Ext.alloc _ _).trans (Ext.alloc _ _)).trans (Ext.alloc _ _));cases ha:valR (x,y)
 ·have HA:=ae ha;have HR:=ae (show mulR (x,y) (u,v)=((0,0),false) by simp [mulR,ha]);clear ha;go_enter Tryz.func211,Tryz.ntmps211
  go_wp2_with fail;refine (az x y _).mono ?_;rw [HA.out];rintro e w1 ⟨rfl,hx⟩;obtain ⟨bA,bB,bR⟩:=box3 hx;obtain ⟨a0,a1,fa⟩:=ai bA;obtain ⟨b0,b1,fb⟩:=ai bB;obtain ⟨r0,r1,fr⟩:=ai bR;have X1:=ae hx;clear hx bA bB bR
  go_wp2
  rw [HR.out];refine bodyPost_ret (v:=.tuple #[.agg #[.int .i64 0,.int .i64 0],.bool false]) (by simp [results,Tryz.results211,go_sem,r0,r1]) rfl ⟨rfl,?_⟩;exact ((HX.out.trans X1.out).setCell (by simp;omega) _).setCell (by simp;omega) _
 cases hb:valR (u,v)
 ·have HA:=ae ha;have HB:=ae hb;have HR:=ae (show mulR (x,y) (u,v)=((0,0),false) by simp [mulR,hb]);clear ha hb;go_enter Tryz.func211,Tryz.ntmps211
  go_wp2_with fail;refine (az x y _).mono ?_;rw [HA.out];rintro e w1 ⟨rfl,hx⟩;obtain ⟨bA,bB,bR⟩:=box3 hx;obtain ⟨a0,a1,fa⟩:=ai bA;obtain ⟨b0,b1,fb⟩:=ai bB;obtain ⟨r0,r1,fr⟩:=ai bR;have X1:=ae hx;clear hx bA bB bR;go_wp2_with fail;refine (az u v _).mono ?_;rw [HB.out];rintro e w2 ⟨rfl,hx⟩;clear a0 a1 fa b0 b1 fb r0 r1 fr;have X2:=ae (X1.out.trans hx);obtain ⟨bA,bB,bR⟩:=box3 X2.out;obtain ⟨a0,a1,fa⟩:=ai bA;obtain ⟨b0,b1,fb⟩:=ai bB;obtain ⟨r0,r1,fr⟩:=ai bR;clear hx bA bB bR
  go_wp2
  rw [HR.out];refine bodyPost_ret (v:=.tuple #[.agg #[.int .i64 0,.int .i64 0],.bool false]) (by simp [results,Tryz.results211,go_sem,r0,r1]) rfl ⟨rfl,?_⟩;exact ((HX.out.trans X2.out).setCell (by simp;omega) _).setCell (by simp;omega) _
 have HA:=ae ha;have HB:=ae hb;obtain ⟨x1,x2,y1,y2⟩:=cX ha;obtain ⟨u1,u2,v1,v2⟩:=cX hb;have q1:in18 (x*u):=de (by omega) (by omega);obtain ⟨e1,g1⟩:=bu q1;have q2:in18 (y*v):=de (by omega) (by omega);obtain ⟨e2,g2⟩:=bu q2;obtain ⟨p,q,ok,hpq⟩:∃ p q ok,aD (x*u) (y*v)=((p,q),ok):=⟨_,_,_,rfl⟩;have HPQ:=ae hpq;have HR:=ae (show mulR (x,y) (u,v)=((p,q),ok) by simp [mulR,ha,hb,hpq]);clear ha hb hpq
 ·go_enter Tryz.func211,Tryz.ntmps211
  go_wp2_with fail;refine (az x y _).mono ?_;rw [HA.out];rintro e w1 ⟨rfl,hx⟩;obtain ⟨bA,bB,bR⟩:=box3 hx;obtain ⟨a0,a1,fa⟩:=ai bA;obtain ⟨b0,b1,fb⟩:=ai bB;obtain ⟨r0,r1,fr⟩:=ai bR;have X1:=ae hx;clear hx bA bB bR;go_wp2_with fail;refine (az u v _).mono ?_;rw [HB.out];rintro e w2 ⟨rfl,hx⟩;clear a0 a1 fa b0 b1 fb r0 r1 fr;have X2:=ae (X1.out.trans hx);obtain ⟨bA,bB,bR⟩:=box3 X2.out;obtain ⟨a0,a1,fa⟩:=ai bA;obtain ⟨b0,b1,fb⟩:=ai bB;obtain ⟨r0,r1,fr⟩:=ai bR;clear hx bA bB bR;go_wp2_with fail;refine (iH _ _ _).mono ?_;rw [HPQ.out];rintro e w3 ⟨rfl,hx⟩;clear a0 a1 fa b0 b1 fb r0 r1 fr;have X3:=ae (X2.out.trans hx);obtain ⟨bA,bB,bR⟩:=box3 X3.out;obtain ⟨a0,a1,fa⟩:=ai bA;obtain ⟨b0,b1,fb⟩:=ai bB;obtain ⟨r0,r1,fr⟩:=ai bR;clear hx bA bB bR
  go_wp2
  rw [HR.out];refine bodyPost_ret (v:=.tuple #[.agg #[.int .i64 p,.int .i64 q],.bool ok]) (by simp [results,Tryz.results211,go_sem,r0,r1]) rfl ⟨rfl,?_⟩;exact ((HX.out.trans X3.out).setCell (by simp;omega) _).setCell (by simp;omega) _
set_option maxHeartbeats 1000000 in
theorem lP (x y u v:Int) (w:World) :
 Calls Tryz.prog 113 #[ratV x y,ratV u v] w fun e w'=>e=.returned (resR (divR (x,y) (u,v)))/\Ext w w':=by
 have HX:=ae (show Ext w (((w.alloc (.cells #[.int .i64 x,.int .i64 y] 43)).alloc (.cells #[.int .i64 u,.int .i64 v] 43)).alloc (.cells #[.int .i64 0,.int .i64 0] 43)) from ((Ext.alloc _ _).trans (Ext.alloc _ _)).trans (Ext.alloc _ _));cases ha:valR (x,y)
 ·have HA:=ae ha;have HR:=ae (show divR (x,y) (u,v)=((0,0),false) by simp [divR,ha]);clear ha;go_enter Tryz.func113,Tryz.ntmps113
  go_wp2_with fail;refine (av x y _).mono ?_;rw [HA.out];rintro e w1 ⟨rfl,hx⟩;obtain ⟨bA,bB,bR⟩:=box3 hx;obtain ⟨a0,a1,fa⟩:=ai bA;obtain ⟨b0,b1,fb⟩:=ai bB;obtain ⟨r0,r1,fr⟩:=ai bR;have X1:=ae hx;clear hx bA bB bR
  go_wp2
  rw [HR.out];refine bodyPost_ret (v:=.tuple #[.agg #[.int .i64 0,.int .i64 0],.bool false]) (by simp [results,Tryz.results113,go_sem,r0,r1]) rfl ⟨rfl,?_⟩;exact ((HX.out.trans X1.out).setCell (by simp;omega) _).setCell (by simp;omega) _
 cases hb:valR (u,v)
 ·have HA:=ae ha;have HB:=ae hb;have HR:=ae (show divR (x,y) (u,v)=((0,0),false) by simp [divR,hb]);clear ha hb;go_enter Tryz.func113,Tryz.ntmps113
  go_wp2_with fail;refine (av x y _).mono ?_;rw [HA.out];rintro e w1 ⟨rfl,hx⟩;obtain ⟨bA,bB,bR⟩:=box3 hx;obtain ⟨a0,a1,fa⟩:=ai bA;obtain ⟨b0,b1,fb⟩:=ai bB;obtain ⟨r0,r1,fr⟩:=ai bR;have X1:=ae hx;clear hx bA bB bR;go_wp2_with fail;refine (av u v _).mono ?_;rw [HB.out];rintro e w2 ⟨rfl,hx⟩;clear a0 a1 fa b0 b1 fb r0 r1 fr;have X2:=ae (X1.out.trans hx);obtain ⟨bA,bB,bR⟩:=box3 X2.out;obtain ⟨a0,a1,fa⟩:=ai bA;obtain ⟨b0,b1,fb⟩:=ai bB;obtain ⟨r0,r1,fr⟩:=ai bR;clear hx bA bB bR
  go_wp2
  rw [HR.out];refine bodyPost_ret (v:=.tuple #[.agg #[.int .i64 0,.int .i64 0],.bool false]) (by simp [results,Tryz.results113,go_sem,r0,r1]) rfl ⟨rfl,?_⟩;exact ((HX.out.trans X2.out).setCell (by simp;omega) _).setCell (by simp;omega) _
 have HA:=ae ha;have HB:=ae hb;obtain ⟨x1,x2,y1,y2⟩:=cX ha;obtain ⟨u1,u2,v1,v2⟩:=cX hb;have q1:in18 (x*v):=de (by omega) (by omega);obtain ⟨e1,g1⟩:=bu q1;have q2:in18 (y*u):=de (by omega) (by omega);obtain ⟨e2,g2⟩:=bu q2;obtain ⟨p,q,ok,hpq⟩:∃ p q ok,aD (x*v) (y*u)=((p,q),ok):=⟨_,_,_,rfl⟩;have HPQ:=ae hpq;have HR:=ae (show divR (x,y) (u,v)=((p,q),ok) by simp [divR,ha,hb,hpq]);clear ha hb hpq
 ·go_enter Tryz.func113,Tryz.ntmps113
  go_wp2_with fail;refine (av x y _).mono ?_;rw [HA.out];rintro e w1 ⟨rfl,hx⟩;obtain ⟨bA,bB,bR⟩:=box3 hx;obtain ⟨a0,a1,fa⟩:=ai bA;obtain ⟨b0,b1,fb⟩:=ai bB;obtain ⟨r0,r1,fr⟩:=ai bR;have X1:=ae hx;clear hx bA bB bR;go_wp2_with fail;refine (av u v _).mono ?_;rw [HB.out];rintro e w2 ⟨rfl,hx⟩;clear a0 a1 fa b0 b1 fb r0 r1 fr;have X2:=ae (X1.out.trans hx);obtain ⟨bA,bB,bR⟩:=box3 X2.out;obtain ⟨a0,a1,fa⟩:=ai bA;obtain ⟨b0,b1,fb⟩:=ai bB;obtain ⟨r0,r1,fr⟩:=ai bR;clear hx bA bB bR;go_wp2_with fail;refine (iD _ _ _).mono ?_;rw [HPQ.out];rintro e w3 ⟨rfl,hx⟩;clear a0 a1 fa b0 b1 fb r0 r1 fr;have X3:=ae (X2.out.trans hx);obtain ⟨bA,bB,bR⟩:=box3 X3.out;obtain ⟨a0,a1,fa⟩:=ai bA;obtain ⟨b0,b1,fb⟩:=ai bB;obtain ⟨r0,r1,fr⟩:=ai bR;clear hx bA bB bR
  go_wp2
  rw [HR.out];refine bodyPost_ret (v:=.tuple #[.agg #[.int .i64 p,.int .i64 q],.bool ok]) (by simp [results,Tryz.results113,go_sem,r0,r1]) rfl ⟨rfl,?_⟩;exact ((HX.out.trans X3.out).setCell (by simp;omega) _).setCell (by simp;omega) _
set_option maxHeartbeats 1000000 in
theorem mA (x y u v:Int) (w:World) :
 Calls Tryz.prog 183 #[ratV x y,ratV u v] w fun e w'=>e=.returned (resR (divR (x,y) (u,v)))/\Ext w w':=by
 have HX:=ae (show Ext w (((w.alloc (.cells #[.int .i64 x,.int .i64 y] 43)).alloc (.cells #[.int .i64 u,.int .i64 v] 43)).alloc (.cells #[.int .i64 0,.int .i64 0] 43)) from ((Ext.alloc _ _).trans (Ext.alloc _ _)).trans (Ext.alloc _ _));cases ha:valR (x,y)
 ·have HA:=ae ha;have HR:=ae (show divR (x,y) (u,v)=((0,0),false) by simp [divR,ha]);clear ha;go_enter Tryz.func183,Tryz.ntmps183
  go_wp2_with fail;refine (az x y _).mono ?_;rw [HA.out];rintro e w1 ⟨rfl,hx⟩;obtain ⟨bA,bB,bR⟩:=box3 hx;obtain ⟨a0,a1,fa⟩:=ai bA;obtain ⟨b0,b1,fb⟩:=ai bB;obtain ⟨r0,r1,fr⟩:=ai bR;have X1:=ae hx;clear hx bA bB bR
  go_wp2
  rw [HR.out];refine bodyPost_ret (v:=.tuple #[.agg #[.int .i64 0,.int .i64 0],.bool false]) (by simp [results,Tryz.results183,go_sem,r0,r1]) rfl ⟨rfl,?_⟩;exact ((HX.out.trans X1.out).setCell (by simp;omega) _).setCell (by simp;omega) _
 cases hb:valR (u,v)
 ·have HA:=ae ha;have HB:=ae hb;have HR:=ae (show divR (x,y) (u,v)=((0,0),false) by simp [divR,hb]);clear ha hb;go_enter Tryz.func183,Tryz.ntmps183
  go_wp2_with fail;refine (az x y _).mono ?_;rw [HA.out];rintro e w1 ⟨rfl,hx⟩;obtain ⟨bA,bB,bR⟩:=box3 hx;obtain ⟨a0,a1,fa⟩:=ai bA;obtain ⟨b0,b1,fb⟩:=ai bB;obtain ⟨r0,r1,fr⟩:=ai bR;have X1:=ae hx;clear hx bA bB bR;go_wp2_with fail;refine (az u v _).mono ?_;rw [HB.out];rintro e w2 ⟨rfl,hx⟩;clear a0 a1 fa b0 b1 fb r0 r1 fr;have X2:=ae (X1.out.trans hx);obtain ⟨bA,bB,bR⟩:=box3 X2.out;obtain ⟨a0,a1,fa⟩:=ai bA;obtain ⟨b0,b1,fb⟩:=ai bB;obtain ⟨r0,r1,fr⟩:=ai bR;clear hx bA bB bR
  go_wp2
  rw [HR.out];refine bodyPost_ret (v:=.tuple #[.agg #[.int .i64 0,.int .i64 0],.bool false]) (by simp [results,Tryz.results183,go_sem,r0,r1]) rfl ⟨rfl,?_⟩;exact ((HX.out.trans X2.out).setCell (by simp;omega) _).setCell (by simp;omega) _
 have HA:=ae ha;have HB:=ae hb;obtain ⟨x1,x2,y1,y2⟩:=cX ha;obtain ⟨u1,u2,v1,v2⟩:=cX hb;have q1:in18 (x*v):=de (by omega) (by omega);obtain ⟨e1,g1⟩:=bu q1;have q2:in18 (y*u):=de (by omega) (by omega);obtain ⟨e2,g2⟩:=bu q2;obtain ⟨p,q,ok,hpq⟩:∃ p q ok,aD (x*v) (y*u)=((p,q),ok):=⟨_,_,_,rfl⟩;have HPQ:=ae hpq;have HR:=ae (show divR (x,y) (u,v)=((p,q),ok) by simp [divR,ha,hb,hpq]);clear ha hb hpq
 ·go_enter Tryz.func183,Tryz.ntmps183
  go_wp2_with fail;refine (az x y _).mono ?_;rw [HA.out];rintro e w1 ⟨rfl,hx⟩;obtain ⟨bA,bB,bR⟩:=box3 hx;obtain ⟨a0,a1,fa⟩:=ai bA;obtain ⟨b0,b1,fb⟩:=ai bB;obtain ⟨r0,r1,fr⟩:=ai bR;have X1:=ae hx;clear hx bA bB bR;go_wp2_with fail;refine (az u v _).mono ?_;rw [HB.out];rintro e w2 ⟨rfl,hx⟩;clear a0 a1 fa b0 b1 fb r0 r1 fr;have X2:=ae (X1.out.trans hx);obtain ⟨bA,bB,bR⟩:=box3 X2.out;obtain ⟨a0,a1,fa⟩:=ai bA;obtain ⟨b0,b1,fb⟩:=ai bB;obtain ⟨r0,r1,fr⟩:=ai bR;clear hx bA bB bR;go_wp2_with fail;refine (iH _ _ _).mono ?_;rw [HPQ.out];rintro e w3 ⟨rfl,hx⟩;clear a0 a1 fa b0 b1 fb r0 r1 fr;have X3:=ae (X2.out.trans hx);obtain ⟨bA,bB,bR⟩:=box3 X3.out;obtain ⟨a0,a1,fa⟩:=ai bA;obtain ⟨b0,b1,fb⟩:=ai bB;obtain ⟨r0,r1,fr⟩:=ai bR;clear hx bA bB bR
  go_wp2
  rw [HR.out];refine bodyPost_ret (v:=.tuple #[.agg #[.int .i64 p,.int .i64 q],.bool ok]) (by simp [results,Tryz.results183,go_sem,r0,r1]) rfl ⟨rfl,?_⟩;exact ((HX.out.trans X3.out).setCell (by simp;omega) _).setCell (by simp;omega) _
set_option maxHeartbeats 1000000 in
theorem iq (x y u v:Int) (w:World) :
 Calls Tryz.prog 38 #[ratV x y,ratV u v] w fun e w'=>e=.returned (.int .i64 (cmpR (x,y) (u,v)))/\Ext w w':=by
 have HX:=ae (show Ext w ((w.alloc (.cells #[.int .i64 x,.int .i64 y] 43)).alloc (.cells #[.int .i64 u,.int .i64 v] 43)) from (Ext.alloc _ _).trans (Ext.alloc _ _));cases ha:valR (x,y)
 ·have HA:=ae ha;have HR:=ae (show cmpR (x,y) (u,v)=0 by simp [cmpR,ha]);clear ha;go_enter Tryz.func38,Tryz.ntmps38
  go_wp2_with fail;refine (av x y _).mono ?_;rw [HA.out];rintro e w1 ⟨rfl,hx⟩;obtain ⟨bA,bB⟩:=box2 hx;obtain ⟨a0,a1,fa⟩:=ai bA;obtain ⟨b0,b1,fb⟩:=ai bB;have X1:=ae hx;clear hx bA bB
  go_wp2
  go_ret;exact ⟨aM HR.out.symm,HX.out.trans X1.out⟩
 cases hb:valR (u,v)
 ·have HA:=ae ha;have HB:=ae hb;have HR:=ae (show cmpR (x,y) (u,v)=0 by simp [cmpR,hb]);clear ha hb;go_enter Tryz.func38,Tryz.ntmps38
  go_wp2_with fail;refine (av x y _).mono ?_;rw [HA.out];rintro e w1 ⟨rfl,hx⟩;obtain ⟨bA,bB⟩:=box2 hx;obtain ⟨a0,a1,fa⟩:=ai bA;obtain ⟨b0,b1,fb⟩:=ai bB;have X1:=ae hx;clear hx bA bB;go_wp2_with fail;refine (av u v _).mono ?_;rw [HB.out];rintro e w2 ⟨rfl,hx⟩;clear a0 a1 fa b0 b1 fb;have X2:=ae (X1.out.trans hx);obtain ⟨bA,bB⟩:=box2 X2.out;obtain ⟨a0,a1,fa⟩:=ai bA;obtain ⟨b0,b1,fb⟩:=ai bB;clear hx bA bB
  go_wp2
  go_ret;exact ⟨aM HR.out.symm,HX.out.trans X2.out⟩
 have HA:=ae ha;have HB:=ae hb;obtain ⟨x1,x2,y1,y2⟩:=cX ha;obtain ⟨u1,u2,v1,v2⟩:=cX hb;have q1:in18 (x*v):=de (by omega) (by omega);have q2:in18 (u*y):=de (by omega) (by omega);obtain ⟨e1,g1⟩:=bu q1;obtain ⟨e2,g2⟩:=bu q2;have hR:cmpR (x,y) (u,v)=(if x*v<u*y then -1 else if u*y<x*v then 1 else 0):=by simp [cmpR,ha,hb]
 obtain ⟨P,hP⟩:∃ P,P=x*v:=⟨_,rfl⟩;obtain ⟨Q,hQ⟩:∃ Q,Q=u*y:=⟨_,rfl⟩;rw [<-hP,<-hQ] at hR;rw [<-hP] at e1 g1;rw [<-hQ] at e2 g2;have HR:=ae hR;have hP':=hP.symm;have hQ':=hQ.symm;clear ha hb hR q1 q2 hP hQ;by_cases h1:P<Q
 ·go_enter Tryz.func38,Tryz.ntmps38
  go_wp2_with fail;refine (av x y _).mono ?_;rw [HA.out];rintro e w1 ⟨rfl,hx⟩;obtain ⟨bA,bB⟩:=box2 hx;obtain ⟨a0,a1,fa⟩:=ai bA;obtain ⟨b0,b1,fb⟩:=ai bB;have X1:=ae hx;clear hx bA bB;go_wp2_with fail;refine (av u v _).mono ?_;rw [HB.out];rintro e w2 ⟨rfl,hx⟩;clear a0 a1 fa b0 b1 fb;have X2:=ae (X1.out.trans hx);obtain ⟨bA,bB⟩:=box2 X2.out;obtain ⟨a0,a1,fa⟩:=ai bA;obtain ⟨b0,b1,fb⟩:=ai bB;clear hx bA bB
  go_wp2
  go_quiet (fail)
  go_wp2
  go_ret;exact ⟨aM (by rw [HR.out,if_pos (by omega)]),HX.out.trans (X2.out.trans (Drew.ext ⟨_,rfl⟩))⟩
 by_cases h2:Q<P
 ·go_enter Tryz.func38,Tryz.ntmps38
  go_wp2_with fail;refine (av x y _).mono ?_;rw [HA.out];rintro e w1 ⟨rfl,hx⟩;obtain ⟨bA,bB⟩:=box2 hx;obtain ⟨a0,a1,fa⟩:=ai bA;obtain ⟨b0,b1,fb⟩:=ai bB;have X1:=ae hx;clear hx bA bB;go_wp2_with fail;refine (av u v _).mono ?_;rw [HB.out];rintro e w2 ⟨rfl,hx⟩;clear a0 a1 fa b0 b1 fb;have X2:=ae (X1.out.trans hx);obtain ⟨bA,bB⟩:=box2 X2.out;obtain ⟨a0,a1,fa⟩:=ai bA;obtain ⟨b0,b1,fb⟩:=ai bB;clear hx bA bB
  go_wp2
  go_quiet (fail)
  go_wp2
  go_ret;exact ⟨aM (by rw [HR.out,if_neg (by omega),if_pos (by omega)]),HX.out.trans (X2.out.trans (Drew.ext ⟨_,rfl⟩))⟩
 ·go_enter Tryz.func38,Tryz.ntmps38
  go_wp2_with fail;refine (av x y _).mono ?_;rw [HA.out];rintro e w1 ⟨rfl,hx⟩;obtain ⟨bA,bB⟩:=box2 hx;obtain ⟨a0,a1,fa⟩:=ai bA;obtain ⟨b0,b1,fb⟩:=ai bB;have X1:=ae hx;clear hx bA bB;go_wp2_with fail;refine (av u v _).mono ?_;rw [HB.out];rintro e w2 ⟨rfl,hx⟩;clear a0 a1 fa b0 b1 fb;have X2:=ae (X1.out.trans hx);obtain ⟨bA,bB⟩:=box2 X2.out;obtain ⟨a0,a1,fa⟩:=ai bA;obtain ⟨b0,b1,fb⟩:=ai bB;clear hx bA bB
  go_wp2
  go_quiet (fail)
  go_wp2
  go_ret;exact ⟨aM (by rw [HR.out,if_neg (by omega),if_neg (by omega)]),HX.out.trans (X2.out.trans (Drew.ext ⟨_,rfl⟩))⟩
set_option maxHeartbeats 1000000 in
theorem fR (x y u v:Int) (w:World) :
 Calls Tryz.prog 147 #[ratV x y,ratV u v] w fun e w'=>e=.returned (.int .i64 (cmpR (x,y) (u,v)))/\Ext w w':=by
 have HX:=ae (show Ext w ((w.alloc (.cells #[.int .i64 x,.int .i64 y] 43)).alloc (.cells #[.int .i64 u,.int .i64 v] 43)) from (Ext.alloc _ _).trans (Ext.alloc _ _));cases ha:valR (x,y)
 ·have HA:=ae ha;have HR:=ae (show cmpR (x,y) (u,v)=0 by simp [cmpR,ha]);clear ha;go_enter Tryz.func147,Tryz.ntmps147
  go_wp2_with fail;refine (az x y _).mono ?_;rw [HA.out];rintro e w1 ⟨rfl,hx⟩;obtain ⟨bA,bB⟩:=box2 hx;obtain ⟨a0,a1,fa⟩:=ai bA;obtain ⟨b0,b1,fb⟩:=ai bB;have X1:=ae hx;clear hx bA bB
  go_wp2
  go_ret;exact ⟨aM HR.out.symm,HX.out.trans X1.out⟩
 cases hb:valR (u,v)
 ·have HA:=ae ha;have HB:=ae hb;have HR:=ae (show cmpR (x,y) (u,v)=0 by simp [cmpR,hb]);clear ha hb;go_enter Tryz.func147,Tryz.ntmps147
  go_wp2_with fail;refine (az x y _).mono ?_;rw [HA.out];rintro e w1 ⟨rfl,hx⟩;obtain ⟨bA,bB⟩:=box2 hx;obtain ⟨a0,a1,fa⟩:=ai bA;obtain ⟨b0,b1,fb⟩:=ai bB;have X1:=ae hx;clear hx bA bB;go_wp2_with fail;refine (az u v _).mono ?_;rw [HB.out];rintro e w2 ⟨rfl,hx⟩;clear a0 a1 fa b0 b1 fb;have X2:=ae (X1.out.trans hx);obtain ⟨bA,bB⟩:=box2 X2.out;obtain ⟨a0,a1,fa⟩:=ai bA;obtain ⟨b0,b1,fb⟩:=ai bB;clear hx bA bB
  go_wp2
  go_ret;exact ⟨aM HR.out.symm,HX.out.trans X2.out⟩
 have HA:=ae ha;have HB:=ae hb;obtain ⟨x1,x2,y1,y2⟩:=cX ha;obtain ⟨u1,u2,v1,v2⟩:=cX hb;have q1:in18 (x*v):=de (by omega) (by omega);have q2:in18 (u*y):=de (by omega) (by omega);obtain ⟨e1,g1⟩:=bu q1;obtain ⟨e2,g2⟩:=bu q2;have hR:cmpR (x,y) (u,v)=(if x*v<u*y then -1 else if u*y<x*v then 1 else 0):=by simp [cmpR,ha,hb]
 obtain ⟨P,hP⟩:∃ P,P=x*v:=⟨_,rfl⟩;obtain ⟨Q,hQ⟩:∃ Q,Q=u*y:=⟨_,rfl⟩;rw [<-hP,<-hQ] at hR;rw [<-hP] at e1 g1;rw [<-hQ] at e2 g2;have HR:=ae hR;have hP':=hP.symm;have hQ':=hQ.symm;clear ha hb hR q1 q2 hP hQ;by_cases h1:P<Q
 ·go_enter Tryz.func147,Tryz.ntmps147
  go_wp2_with fail;refine (az x y _).mono ?_;rw [HA.out];rintro e w1 ⟨rfl,hx⟩;obtain ⟨bA,bB⟩:=box2 hx;obtain ⟨a0,a1,fa⟩:=ai bA;obtain ⟨b0,b1,fb⟩:=ai bB;have X1:=ae hx;clear hx bA bB;go_wp2_with fail;refine (az u v _).mono ?_;rw [HB.out];rintro e w2 ⟨rfl,hx⟩;clear a0 a1 fa b0 b1 fb;have X2:=ae (X1.out.trans hx);obtain ⟨bA,bB⟩:=box2 X2.out;obtain ⟨a0,a1,fa⟩:=ai bA;obtain ⟨b0,b1,fb⟩:=ai bB;clear hx bA bB
  go_wp2
  go_ret;exact ⟨aM (by rw [HR.out,if_pos (by omega)]),HX.out.trans X2.out⟩
 by_cases h2:Q<P
 ·go_enter Tryz.func147,Tryz.ntmps147
  go_wp2_with fail;refine (az x y _).mono ?_;rw [HA.out];rintro e w1 ⟨rfl,hx⟩;obtain ⟨bA,bB⟩:=box2 hx;obtain ⟨a0,a1,fa⟩:=ai bA;obtain ⟨b0,b1,fb⟩:=ai bB;have X1:=ae hx;clear hx bA bB;go_wp2_with fail;refine (az u v _).mono ?_;rw [HB.out];rintro e w2 ⟨rfl,hx⟩;clear a0 a1 fa b0 b1 fb;have X2:=ae (X1.out.trans hx);obtain ⟨bA,bB⟩:=box2 X2.out;obtain ⟨a0,a1,fa⟩:=ai bA;obtain ⟨b0,b1,fb⟩:=ai bB;clear hx bA bB
  go_wp2
  go_ret;exact ⟨aM (by rw [HR.out,if_neg (by omega),if_pos (by omega)]),HX.out.trans X2.out⟩
 ·go_enter Tryz.func147,Tryz.ntmps147
  go_wp2_with fail;refine (az x y _).mono ?_;rw [HA.out];rintro e w1 ⟨rfl,hx⟩;obtain ⟨bA,bB⟩:=box2 hx;obtain ⟨a0,a1,fa⟩:=ai bA;obtain ⟨b0,b1,fb⟩:=ai bB;have X1:=ae hx;clear hx bA bB;go_wp2_with fail;refine (az u v _).mono ?_;rw [HB.out];rintro e w2 ⟨rfl,hx⟩;clear a0 a1 fa b0 b1 fb;have X2:=ae (X1.out.trans hx);obtain ⟨bA,bB⟩:=box2 X2.out;obtain ⟨a0,a1,fa⟩:=ai bA;obtain ⟨b0,b1,fb⟩:=ai bB;clear hx bA bB
  go_wp2
  go_ret;exact ⟨aM (by rw [HR.out,if_neg (by omega),if_neg (by omega)]),HX.out.trans X2.out⟩
set_option maxHeartbeats 1000000 in
theorem mH (x y u v:Int) (w:World) :
 Calls Tryz.prog 184 #[ratV x y,ratV u v] w fun e w'=>e=.returned (resR (subR (x,y) (u,v)))/\Ext w w':=by
 have HX:=ae (show Ext w (((w.alloc (.cells #[.int .i64 x,.int .i64 y] 43)).alloc (.cells #[.int .i64 u,.int .i64 v] 43)).alloc (.cells #[.int .i64 0,.int .i64 0] 43)) from ((Ext.alloc _ _).trans (Ext.alloc _ _)).trans (Ext.alloc _ _));cases hb:valR (u,v)
 ·have HB:=ae hb;have HR:=ae (show subR (x,y) (u,v)=((0,0),false) by simp [subR,hb]);clear hb;go_enter Tryz.func184,Tryz.ntmps184
  go_wp2_with fail;refine (az u v _).mono ?_;rw [HB.out];rintro e w1 ⟨rfl,hx⟩;obtain ⟨bA,bB,bR⟩:=box3 hx;obtain ⟨a0,a1,fa⟩:=ai bA;obtain ⟨b0,b1,fb⟩:=ai bB;obtain ⟨r0,r1,fr⟩:=ai bR;have X1:=ae hx;clear hx bA bB bR
  go_wp2
  rw [HR.out];refine bodyPost_ret (v:=.tuple #[.agg #[.int .i64 0,.int .i64 0],.bool false]) (by simp [results,Tryz.results184,go_sem,r0,r1]) rfl ⟨rfl,?_⟩;exact ((HX.out.trans X1.out).setCell (by simp;omega) _).setCell (by simp;omega) _
 ·have HB:=ae hb;obtain ⟨u1,u2,v1,v2⟩:=cX hb;obtain ⟨p,q,ok,hpq⟩:∃ p q ok,addR (x,y) (-u,v)=((p,q),ok):=⟨_,_,_,rfl⟩;have HPQ:=ae hpq;have HR:=ae (show subR (x,y) (u,v)=((p,q),ok) by rw [<-mP];exact hpq);clear hb hpq;go_enter Tryz.func184,Tryz.ntmps184
  go_wp2_with fail;refine (az u v _).mono ?_;rw [HB.out];rintro e w1 ⟨rfl,hx⟩;obtain ⟨bA,bB,bR⟩:=box3 hx;obtain ⟨a0,a1,fa⟩:=ai bA;obtain ⟨b0,b1,fb⟩:=ai bB;obtain ⟨r0,r1,fr⟩:=ai bR;have X1:=ae hx;have HBA:=ae bA;have HBR:=ae bR;have hl:=lt_of_block bR;clear hx bA bB bR;go_wp2_with fail;refine (jm _ _ _ _ _).mono ?_;rw [HPQ.out];rintro e w3 ⟨rfl,hx⟩;have hz:Ext w (w1.setCell ⟨w.heap.size+1,0,none⟩ (.int .i64 (-u))):=(HX.out.trans X1.out).setCell (by simp) _;have X3:=ae (hz.trans hx);clear hz;have bR:w3.heap[w.heap.size+1+1]?=some (.cells #[.int .i64 0,.int .i64 0] 43 (0,0)):=(hx.block _ (by simp;omega)).trans ((heap_setCell_other _ _ _ _ (by simp)).trans HBR.out);clear a0 a1 fa b0 b1 fb r0 r1 fr;obtain ⟨r0,r1,fr⟩:=ai bR;clear hx bR
  go_wp2
  rw [HR.out];refine bodyPost_ret (v:=.tuple #[.agg #[.int .i64 p,.int .i64 q],.bool ok]) (by simp [results,Tryz.results184,go_sem,r0,r1]) rfl ⟨rfl,?_⟩;exact (X3.out.setCell (by simp;omega) _).setCell (by simp;omega) _
theorem OwnI.made (w:World) (base:Nat) (hb:base<=w.heap.size):OwnI (w.alloc (.cells #[] 3)) base (.slice (some ⟨w.heap.size,0,none⟩) 0 0) [] :=
 World.ownsRow_lit w #[] 0 hb (by omega) rfl
set_option maxHeartbeats 400000 in
theorem jy {w:World} {a:Option Addr} {n cap:Nat} {l:List Int} (h:Ints w a n cap l) (hb:n<=1099511627776) :
 Calls Tryz.prog 109 #[.slice a n cap] w fun e w'=>∃ v,e=.returned v/\OwnI w' w.heap.size v l/\Ext w w':=by
 have heq:∀ w':World,(binOp .eql 24 (.slice a n cap) (.slice none 0 0)).run Tryz.prog w'=.ok (.bool a.isNone) w':=fun w'=>Lib.run_eql_slice_nil w' _ _ a n cap 0 0 Tryz.underlying24
 have HL:=ae h.hlen;cases a with
 | none =>
   have hl:l=[]:=by
    have:¬ 0<n:=fun hn=>by obtain ⟨b,off,e,_⟩:=h.cell 0 hn;cases e
    exact List.eq_nil_of_length_eq_zero (by have:=HL.out;omega)
   simp only [Option.isNone_none] at heq;go_enter Tryz.func109,Tryz.ntmps109
   go_wp2
   go_ret;exact ⟨_,rfl,by rw [hl];exact OwnI.nil w _,Ext.refl _⟩
 | some ad =>
   simp only [Option.isNone_some] at heq;have HI:=ae (h.alloc (.cells #[] 3));have HO:=ae (OwnI.made w w.heap.size (Nat.le_refl _));clear h;go_enter Tryz.func109,Tryz.ntmps109
   go_wp2_with (first|(at_builtin;refine bw rfl _ _ rfl w.heap.size _ _ rfl HO.out _ n _ l rfl HI.out (by simpa using hb) (by simp) ?_;intro v' w1 ho hg hnear));go_ret;exact ⟨_,rfl,ho,aq (Ext.alloc _ _) hg (fun k hk=>Nat.le_of_eq (Option.some.inj (show some w.heap.size=some k from hk)))⟩
section
variable {w0 w:World} {cb:Nat} {a':Option Addr} {n' c':Nat} {C:List Int} {base:Nat} {a:Option Addr} {n cap:Nat}
end
theorem Ints.oneS (w:World) (x:Int) (t:TypeId) (n:Nat) (hn:n=w.heap.size):Ints (w.alloc (.cells #[.int .i64 x] t)) (some ⟨n,0,none⟩) 1 1 [x]:=by
 subst hn;exact Ints.one w x t
theorem OwnI.madeS (w:World) (base n:Nat) (hn:n=w.heap.size) (hb:base<=w.heap.size):OwnI (w.alloc (.cells #[] 3)) base (.slice (some ⟨n,0,none⟩) 0 0) []:=by
 subst hn;exact OwnI.made w base hb
end Go.Proofs.YthjjfkeacobikaaGreat
