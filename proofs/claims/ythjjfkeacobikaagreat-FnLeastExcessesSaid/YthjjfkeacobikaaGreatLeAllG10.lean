import Derived.Test.YthjjfkeacobikaaGreatLeAllG9
import Derived.Test.YthjjfkeacobikaaGreatLeAllG2
import Derived.Deep.RegionWith
import Derived.Test.YthjjfkeacobikaaGreatLeAllG5
import Derived.Test.YthjjfkeacobikaaGreatLeAllG6
import Derived.Test.YthjjfkeacobikaaGreatLeAllG3
import Derived.Deep.DeepCutAuto
set_option linter.unusedVariables false
set_option linter.unusedSimpArgs false
namespace Go.Proofs.YthjjfkeacobikaaGreat
open Go.RowKit
def memN (s:Int) (m:Nat):List Nat:=(List.range m).filter fun (k:Nat)=>bit s k
def memI (s:Int) (m:Nat):List Int:=(memN s m).map fun (k:Nat)=>(k:Int)
theorem ip (s:Int) (m:Nat):memI s (m+1)=memI s m++(if bit s m then [(m:Int)] else []):=by
 unfold memI memN;cases h:bit s m <;> simp [List.range_succ,h]
theorem memI_len (s:Int) (m:Nat):(memI s m).length<=m:=by
 unfold memI memN
 simpa using List.length_filter_le (fun (k:Nat)=>bit s k) (List.range m)
theorem memI_at (s:Int) (i:Nat) (h:i<(memI s 5).length):∃ k:Nat,(memI s 5)[i]?.getD 0=(k:Int)/\k<5/\bit s k=true/\(memN s 5)[i]?=some k:=by
 have h':i<(memN s 5).length:=by simpa [memI] using h
 refine ⟨(memN s 5)[i],?_,?_⟩
 ·simp [memI,h']
 ·have hm:(memN s 5)[i] ∈ memN s 5:=List.getElem_mem h';have h2:=List.mem_filter.1 hm;exact ⟨List.mem_range.1 h2.1,h2.2,by simp [h']⟩
set_option maxRecDepth 100000
theorem box3 {w W:World} {a b c:Obj} (hx:Ext (((w.alloc a).alloc b).alloc c) W):W.heap[w.heap.size]?=some a/\W.heap[w.heap.size+1]?=some b/\W.heap[w.heap.size+1+1]?=some c :=
 ⟨(hx.block _ (by simp;omega)).trans (by rw [bK _ _ _ (by simp;omega),bK _ _ _ (by simp)];exact aj _ _ _ rfl),
  (hx.block _ (by simp)).trans (by rw [bK _ _ _ (by simp)];exact aj _ _ _ (by simp)),(hx.block _ (by simp)).trans (aj _ _ _ (by simp))⟩
theorem box2 {w W:World} {a b:Obj} (hx:Ext ((w.alloc a).alloc b) W):W.heap[w.heap.size]?=some a/\W.heap[w.heap.size+1]?=some b :=
 ⟨(hx.block _ (by simp;omega)).trans (by rw [bK _ _ _ (by simp)];exact aj _ _ _ rfl),(hx.block _ (by simp)).trans (aj _ _ _ (by simp))⟩
theorem ai {w:World} {b:Nat} {x y:Int} {t:TypeId} (h:w.heap[b]?=some (.cells #[.int .i64 x,.int .i64 y] t (0,0))):w.cell? ⟨b,0,none⟩=some (.int .i64 x)/\w.cell? ⟨b,1,none⟩=some (.int .i64 y)/\∀ o,w.frozen? ⟨b,o,none⟩=false :=
 ⟨by rw [cell_of_row _ _ _ _ _ _ h];rfl,by rw [cell_of_row _ _ _ _ _ _ h];rfl,fun o=>frozen_of_row _ _ _ _ _ h⟩
theorem dg {x y:Int} (h:valR (x,y)=true):-1000000000<=x/\x<=1000000000/\-1000000000<=y/\y<=1000000000:=by have:=aU h;simp only at this;omega
theorem dm {x y:Int} (h:-1000000000<=x/\x<=1000000000) (h':-1000000000<=y/\y<=1000000000):in18 (x*y):=mul_bd h.1 h.2 h'.1 h'.2
set_option maxHeartbeats 1000000 in
theorem ou (x y u v:Int) (w:World) :
 Calls Tryz.prog 169 #[ratV x y,ratV u v] w fun e w'=>e=.returned (resR (addR (x,y) (u,v)))/\Ext w w':=by
 have HX:=ae (show Ext w (((w.alloc (.cells #[.int .i64 x,.int .i64 y] 43)).alloc (.cells #[.int .i64 u,.int .i64 v] 43)).alloc (.cells #[.int .i64 0,.int .i64 0] 43)) from ((Ext.alloc _ _).trans (Ext.alloc _ _)).trans (Ext.alloc _ _));cases ha:valR (x,y)
 ·have HA:=ae ha;have HR:=ae (show addR (x,y) (u,v)=((0,0),false) by simp [addR,ha]);clear ha;go_enter Tryz.func169,Tryz.ntmps169
  go_wp2_with fail;refine (ar x y _).mono ?_;rw [HA.out];rintro e w1 ⟨rfl,hx⟩;obtain ⟨bA,bB,bR⟩:=box3 hx;obtain ⟨a0,a1,fa⟩:=ai bA;obtain ⟨b0,b1,fb⟩:=ai bB;obtain ⟨r0,r1,fr⟩:=ai bR;have X1:=ae hx;clear hx bA bB bR
  go_wp2
  rw [HR.out];refine bodyPost_ret (v:=.tuple #[.agg #[.int .i64 0,.int .i64 0],.bool false]) (by simp [results,Tryz.results169,go_sem,r0,r1]) rfl ⟨rfl,?_⟩;exact ((HX.out.trans X1.out).setCell (by simp;omega) _).setCell (by simp;omega) _
 cases hb:valR (u,v)
 ·have HA:=ae ha;have HB:=ae hb;have HR:=ae (show addR (x,y) (u,v)=((0,0),false) by simp [addR,hb]);clear ha hb;go_enter Tryz.func169,Tryz.ntmps169
  go_wp2_with fail;refine (ar x y _).mono ?_;rw [HA.out];rintro e w1 ⟨rfl,hx⟩;obtain ⟨bA,bB,bR⟩:=box3 hx;obtain ⟨a0,a1,fa⟩:=ai bA;obtain ⟨b0,b1,fb⟩:=ai bB;obtain ⟨r0,r1,fr⟩:=ai bR;have X1:=ae hx;clear hx bA bB bR;go_wp2_with fail;refine (ar u v _).mono ?_;rw [HB.out];rintro e w2 ⟨rfl,hx⟩;clear a0 a1 fa b0 b1 fb r0 r1 fr;have X2:=ae (X1.out.trans hx);obtain ⟨bA,bB,bR⟩:=box3 X2.out;obtain ⟨a0,a1,fa⟩:=ai bA;obtain ⟨b0,b1,fb⟩:=ai bB;obtain ⟨r0,r1,fr⟩:=ai bR;clear hx bA bB bR
  go_wp2
  rw [HR.out];refine bodyPost_ret (v:=.tuple #[.agg #[.int .i64 0,.int .i64 0],.bool false]) (by simp [results,Tryz.results169,go_sem,r0,r1]) rfl ⟨rfl,?_⟩;exact ((HX.out.trans X2.out).setCell (by simp;omega) _).setCell (by simp;omega) _
 have HA:=ae ha;have HB:=ae hb;obtain ⟨x1,x2,y1,y2⟩:=dg ha;obtain ⟨u1,u2,v1,v2⟩:=dg hb;have q1:in18 (x*v):=dm (by omega) (by omega);obtain ⟨e1,g1⟩:=br q1;have q2:in18 (u*y):=dm (by omega) (by omega);obtain ⟨e2,g2⟩:=br q2;have q3:in18 (y*v):=dm (by omega) (by omega);obtain ⟨e3,g3⟩:=br q3;have e4:IntKind.i64.wrap (x*v+u*y)=x*v+u*y:=by rw [IntKind.wrap_i64];unfold in18 at *;omega
 have g4:wrap64 (x*v+u*y)=x*v+u*y:=by unfold wrap64;unfold in18 at *;omega
 obtain ⟨p,q,ok,hpq⟩:∃ p q ok,aL (x*v+u*y) (y*v)=((p,q),ok):=⟨_,_,_,rfl⟩;have HPQ:=ae hpq;have HR:=ae (show addR (x,y) (u,v)=((p,q),ok) by simp [addR,ha,hb,hpq]);clear ha hb hpq
 ·go_enter Tryz.func169,Tryz.ntmps169
  go_wp2_with fail;refine (ar x y _).mono ?_;rw [HA.out];rintro e w1 ⟨rfl,hx⟩;obtain ⟨bA,bB,bR⟩:=box3 hx;obtain ⟨a0,a1,fa⟩:=ai bA;obtain ⟨b0,b1,fb⟩:=ai bB;obtain ⟨r0,r1,fr⟩:=ai bR;have X1:=ae hx;clear hx bA bB bR;go_wp2_with fail;refine (ar u v _).mono ?_;rw [HB.out];rintro e w2 ⟨rfl,hx⟩;clear a0 a1 fa b0 b1 fb r0 r1 fr;have X2:=ae (X1.out.trans hx);obtain ⟨bA,bB,bR⟩:=box3 X2.out;obtain ⟨a0,a1,fa⟩:=ai bA;obtain ⟨b0,b1,fb⟩:=ai bB;obtain ⟨r0,r1,fr⟩:=ai bR;clear hx bA bB bR;go_wp2_with fail;refine (jL _ _ _).mono ?_;rw [HPQ.out];rintro e w3 ⟨rfl,hx⟩;clear a0 a1 fa b0 b1 fb r0 r1 fr;have X3:=ae (X2.out.trans hx);obtain ⟨bA,bB,bR⟩:=box3 X3.out;obtain ⟨a0,a1,fa⟩:=ai bA;obtain ⟨b0,b1,fb⟩:=ai bB;obtain ⟨r0,r1,fr⟩:=ai bR;clear hx bA bB bR
  go_wp2
  rw [HR.out];refine bodyPost_ret (v:=.tuple #[.agg #[.int .i64 p,.int .i64 q],.bool ok]) (by simp [results,Tryz.results169,go_sem,r0,r1]) rfl ⟨rfl,?_⟩;exact ((HX.out.trans X3.out).setCell (by simp;omega) _).setCell (by simp;omega) _
set_option maxHeartbeats 1000000 in
theorem iW (x y u v:Int) (w:World) :
 Calls Tryz.prog 37 #[ratV x y,ratV u v] w fun e w'=>e=.returned (resR (addR (x,y) (u,v)))/\Ext w w':=by
 have HX:=ae (show Ext w (((w.alloc (.cells #[.int .i64 x,.int .i64 y] 43)).alloc (.cells #[.int .i64 u,.int .i64 v] 43)).alloc (.cells #[.int .i64 0,.int .i64 0] 43)) from ((Ext.alloc _ _).trans (Ext.alloc _ _)).trans (Ext.alloc _ _));cases ha:valR (x,y)
 ·have HA:=ae ha;have HR:=ae (show addR (x,y) (u,v)=((0,0),false) by simp [addR,ha]);clear ha;go_enter Tryz.func37,Tryz.ntmps37
  go_wp2_with fail;refine (aI x y _).mono ?_;rw [HA.out];rintro e w1 ⟨rfl,hx⟩;obtain ⟨bA,bB,bR⟩:=box3 hx;obtain ⟨a0,a1,fa⟩:=ai bA;obtain ⟨b0,b1,fb⟩:=ai bB;obtain ⟨r0,r1,fr⟩:=ai bR;have X1:=ae hx;clear hx bA bB bR
  go_wp2
  rw [HR.out];refine bodyPost_ret (v:=.tuple #[.agg #[.int .i64 0,.int .i64 0],.bool false]) (by simp [results,Tryz.results37,go_sem,r0,r1]) rfl ⟨rfl,?_⟩;exact ((HX.out.trans X1.out).setCell (by simp;omega) _).setCell (by simp;omega) _
 cases hb:valR (u,v)
 ·have HA:=ae ha;have HB:=ae hb;have HR:=ae (show addR (x,y) (u,v)=((0,0),false) by simp [addR,hb]);clear ha hb;go_enter Tryz.func37,Tryz.ntmps37
  go_wp2_with fail;refine (aI x y _).mono ?_;rw [HA.out];rintro e w1 ⟨rfl,hx⟩;obtain ⟨bA,bB,bR⟩:=box3 hx;obtain ⟨a0,a1,fa⟩:=ai bA;obtain ⟨b0,b1,fb⟩:=ai bB;obtain ⟨r0,r1,fr⟩:=ai bR;have X1:=ae hx;clear hx bA bB bR;go_wp2_with fail;refine (aI u v _).mono ?_;rw [HB.out];rintro e w2 ⟨rfl,hx⟩;clear a0 a1 fa b0 b1 fb r0 r1 fr;have X2:=ae (X1.out.trans hx);obtain ⟨bA,bB,bR⟩:=box3 X2.out;obtain ⟨a0,a1,fa⟩:=ai bA;obtain ⟨b0,b1,fb⟩:=ai bB;obtain ⟨r0,r1,fr⟩:=ai bR;clear hx bA bB bR
  go_wp2
  rw [HR.out];refine bodyPost_ret (v:=.tuple #[.agg #[.int .i64 0,.int .i64 0],.bool false]) (by simp [results,Tryz.results37,go_sem,r0,r1]) rfl ⟨rfl,?_⟩;exact ((HX.out.trans X2.out).setCell (by simp;omega) _).setCell (by simp;omega) _
 have HA:=ae ha;have HB:=ae hb;obtain ⟨x1,x2,y1,y2⟩:=dg ha;obtain ⟨u1,u2,v1,v2⟩:=dg hb;have q1:in18 (x*v):=dm (by omega) (by omega);obtain ⟨e1,g1⟩:=br q1;have q2:in18 (u*y):=dm (by omega) (by omega);obtain ⟨e2,g2⟩:=br q2;have q3:in18 (y*v):=dm (by omega) (by omega);obtain ⟨e3,g3⟩:=br q3;have e4:IntKind.i64.wrap (x*v+u*y)=x*v+u*y:=by rw [IntKind.wrap_i64];unfold in18 at *;omega
 have g4:wrap64 (x*v+u*y)=x*v+u*y:=by unfold wrap64;unfold in18 at *;omega
 obtain ⟨p,q,ok,hpq⟩:∃ p q ok,aL (x*v+u*y) (y*v)=((p,q),ok):=⟨_,_,_,rfl⟩;have HPQ:=ae hpq;have HR:=ae (show addR (x,y) (u,v)=((p,q),ok) by simp [addR,ha,hb,hpq]);clear ha hb hpq
 ·go_enter Tryz.func37,Tryz.ntmps37
  go_wp2_with fail;refine (aI x y _).mono ?_;rw [HA.out];rintro e w1 ⟨rfl,hx⟩;obtain ⟨bA,bB,bR⟩:=box3 hx;obtain ⟨a0,a1,fa⟩:=ai bA;obtain ⟨b0,b1,fb⟩:=ai bB;obtain ⟨r0,r1,fr⟩:=ai bR;have X1:=ae hx;clear hx bA bB bR;go_wp2_with fail;refine (aI u v _).mono ?_;rw [HB.out];rintro e w2 ⟨rfl,hx⟩;clear a0 a1 fa b0 b1 fb r0 r1 fr;have X2:=ae (X1.out.trans hx);obtain ⟨bA,bB,bR⟩:=box3 X2.out;obtain ⟨a0,a1,fa⟩:=ai bA;obtain ⟨b0,b1,fb⟩:=ai bB;obtain ⟨r0,r1,fr⟩:=ai bR;clear hx bA bB bR;go_wp2_with fail;refine (iB _ _ _).mono ?_;rw [HPQ.out];rintro e w3 ⟨rfl,hx⟩;clear a0 a1 fa b0 b1 fb r0 r1 fr;have X3:=ae (X2.out.trans hx);obtain ⟨bA,bB,bR⟩:=box3 X3.out;obtain ⟨a0,a1,fa⟩:=ai bA;obtain ⟨b0,b1,fb⟩:=ai bB;obtain ⟨r0,r1,fr⟩:=ai bR;clear hx bA bB bR
  go_wp2
  rw [HR.out];refine bodyPost_ret (v:=.tuple #[.agg #[.int .i64 p,.int .i64 q],.bool ok]) (by simp [results,Tryz.results37,go_sem,r0,r1]) rfl ⟨rfl,?_⟩;exact ((HX.out.trans X3.out).setCell (by simp;omega) _).setCell (by simp;omega) _
set_option maxHeartbeats 1000000 in
theorem ku (x y u v:Int) (w:World) :
 Calls Tryz.prog 177 #[ratV x y,ratV u v] w fun e w'=>e=.returned (resR (subR (x,y) (u,v)))/\Ext w w':=by
 have HX:=ae (show Ext w (((w.alloc (.cells #[.int .i64 x,.int .i64 y] 43)).alloc (.cells #[.int .i64 u,.int .i64 v] 43)).alloc (.cells #[.int .i64 0,.int .i64 0] 43)) from ((Ext.alloc _ _).trans (Ext.alloc _ _)).trans (Ext.alloc _ _));cases ha:valR (x,y)
 ·have HA:=ae ha;have HR:=ae (show subR (x,y) (u,v)=((0,0),false) by simp [subR,ha]);clear ha;go_enter Tryz.func177,Tryz.ntmps177
  go_wp2_with fail;refine (ar x y _).mono ?_;rw [HA.out];rintro e w1 ⟨rfl,hx⟩;obtain ⟨bA,bB,bR⟩:=box3 hx;obtain ⟨a0,a1,fa⟩:=ai bA;obtain ⟨b0,b1,fb⟩:=ai bB;obtain ⟨r0,r1,fr⟩:=ai bR;have X1:=ae hx;clear hx bA bB bR
  go_wp2
  rw [HR.out];refine bodyPost_ret (v:=.tuple #[.agg #[.int .i64 0,.int .i64 0],.bool false]) (by simp [results,Tryz.results177,go_sem,r0,r1]) rfl ⟨rfl,?_⟩;exact ((HX.out.trans X1.out).setCell (by simp;omega) _).setCell (by simp;omega) _
 cases hb:valR (u,v)
 ·have HA:=ae ha;have HB:=ae hb;have HR:=ae (show subR (x,y) (u,v)=((0,0),false) by simp [subR,hb]);clear ha hb;go_enter Tryz.func177,Tryz.ntmps177
  go_wp2_with fail;refine (ar x y _).mono ?_;rw [HA.out];rintro e w1 ⟨rfl,hx⟩;obtain ⟨bA,bB,bR⟩:=box3 hx;obtain ⟨a0,a1,fa⟩:=ai bA;obtain ⟨b0,b1,fb⟩:=ai bB;obtain ⟨r0,r1,fr⟩:=ai bR;have X1:=ae hx;clear hx bA bB bR;go_wp2_with fail;refine (ar u v _).mono ?_;rw [HB.out];rintro e w2 ⟨rfl,hx⟩;clear a0 a1 fa b0 b1 fb r0 r1 fr;have X2:=ae (X1.out.trans hx);obtain ⟨bA,bB,bR⟩:=box3 X2.out;obtain ⟨a0,a1,fa⟩:=ai bA;obtain ⟨b0,b1,fb⟩:=ai bB;obtain ⟨r0,r1,fr⟩:=ai bR;clear hx bA bB bR
  go_wp2
  rw [HR.out];refine bodyPost_ret (v:=.tuple #[.agg #[.int .i64 0,.int .i64 0],.bool false]) (by simp [results,Tryz.results177,go_sem,r0,r1]) rfl ⟨rfl,?_⟩;exact ((HX.out.trans X2.out).setCell (by simp;omega) _).setCell (by simp;omega) _
 have HA:=ae ha;have HB:=ae hb;obtain ⟨x1,x2,y1,y2⟩:=dg ha;obtain ⟨u1,u2,v1,v2⟩:=dg hb;have q1:in18 (x*v):=dm (by omega) (by omega);obtain ⟨e1,g1⟩:=br q1;have q2:in18 (u*y):=dm (by omega) (by omega);obtain ⟨e2,g2⟩:=br q2;have q3:in18 (y*v):=dm (by omega) (by omega);obtain ⟨e3,g3⟩:=br q3;have e4:IntKind.i64.wrap (x*v-u*y)=x*v-u*y:=by rw [IntKind.wrap_i64];unfold in18 at *;omega
 have g4:wrap64 (x*v-u*y)=x*v-u*y:=by unfold wrap64;unfold in18 at *;omega
 obtain ⟨p,q,ok,hpq⟩:∃ p q ok,aL (x*v-u*y) (y*v)=((p,q),ok):=⟨_,_,_,rfl⟩;have HPQ:=ae hpq;have HR:=ae (show subR (x,y) (u,v)=((p,q),ok) by simp [subR,ha,hb,hpq]);clear ha hb hpq
 ·go_enter Tryz.func177,Tryz.ntmps177
  go_wp2_with fail;refine (ar x y _).mono ?_;rw [HA.out];rintro e w1 ⟨rfl,hx⟩;obtain ⟨bA,bB,bR⟩:=box3 hx;obtain ⟨a0,a1,fa⟩:=ai bA;obtain ⟨b0,b1,fb⟩:=ai bB;obtain ⟨r0,r1,fr⟩:=ai bR;have X1:=ae hx;clear hx bA bB bR;go_wp2_with fail;refine (ar u v _).mono ?_;rw [HB.out];rintro e w2 ⟨rfl,hx⟩;clear a0 a1 fa b0 b1 fb r0 r1 fr;have X2:=ae (X1.out.trans hx);obtain ⟨bA,bB,bR⟩:=box3 X2.out;obtain ⟨a0,a1,fa⟩:=ai bA;obtain ⟨b0,b1,fb⟩:=ai bB;obtain ⟨r0,r1,fr⟩:=ai bR;clear hx bA bB bR;go_wp2_with fail;refine (jL _ _ _).mono ?_;rw [HPQ.out];rintro e w3 ⟨rfl,hx⟩;clear a0 a1 fa b0 b1 fb r0 r1 fr;have X3:=ae (X2.out.trans hx);obtain ⟨bA,bB,bR⟩:=box3 X3.out;obtain ⟨a0,a1,fa⟩:=ai bA;obtain ⟨b0,b1,fb⟩:=ai bB;obtain ⟨r0,r1,fr⟩:=ai bR;clear hx bA bB bR
  go_wp2
  rw [HR.out];refine bodyPost_ret (v:=.tuple #[.agg #[.int .i64 p,.int .i64 q],.bool ok]) (by simp [results,Tryz.results177,go_sem,r0,r1]) rfl ⟨rfl,?_⟩;exact ((HX.out.trans X3.out).setCell (by simp;omega) _).setCell (by simp;omega) _
set_option maxHeartbeats 1000000 in
theorem oA (x y u v:Int) (w:World) :
 Calls Tryz.prog 210 #[ratV x y,ratV u v] w fun e w'=>e=.returned (resR (mulR (x,y) (u,v)))/\Ext w w':=by
 have HX:=ae (show Ext w (((w.alloc (.cells #[.int .i64 x,.int .i64 y] 43)).alloc (.cells #[.int .i64 u,.int .i64 v] 43)).alloc (.cells #[.int .i64 0,.int .i64 0] 43)) from ((Ext.alloc _ _).trans (Ext.alloc _ _)).trans (Ext.alloc _ _));cases ha:valR (x,y)
 ·have HA:=ae ha;have HR:=ae (show mulR (x,y) (u,v)=((0,0),false) by simp [mulR,ha]);clear ha;go_enter Tryz.func210,Tryz.ntmps210
  go_wp2_with fail;refine (ar x y _).mono ?_;rw [HA.out];rintro e w1 ⟨rfl,hx⟩;obtain ⟨bA,bB,bR⟩:=box3 hx;obtain ⟨a0,a1,fa⟩:=ai bA;obtain ⟨b0,b1,fb⟩:=ai bB;obtain ⟨r0,r1,fr⟩:=ai bR;have X1:=ae hx;clear hx bA bB bR
  go_wp2
  rw [HR.out];refine bodyPost_ret (v:=.tuple #[.agg #[.int .i64 0,.int .i64 0],.bool false]) (by simp [results,Tryz.results210,go_sem,r0,r1]) rfl ⟨rfl,?_⟩;exact ((HX.out.trans X1.out).setCell (by simp;omega) _).setCell (by simp;omega) _
 cases hb:valR (u,v)
 ·have HA:=ae ha;have HB:=ae hb;have HR:=ae (show mulR (x,y) (u,v)=((0,0),false) by simp [mulR,hb]);clear ha hb;go_enter Tryz.func210,Tryz.ntmps210
  go_wp2_with fail;refine (ar x y _).mono ?_;rw [HA.out];rintro e w1 ⟨rfl,hx⟩;obtain ⟨bA,bB,bR⟩:=box3 hx;obtain ⟨a0,a1,fa⟩:=ai bA;obtain ⟨b0,b1,fb⟩:=ai bB;obtain ⟨r0,r1,fr⟩:=ai bR;have X1:=ae hx;clear hx bA bB bR;go_wp2_with fail;refine (ar u v _).mono ?_;rw [HB.out];rintro e w2 ⟨rfl,hx⟩;clear a0 a1 fa b0 b1 fb r0 r1 fr;have X2:=ae (X1.out.trans hx);obtain ⟨bA,bB,bR⟩:=box3 X2.out;obtain ⟨a0,a1,fa⟩:=ai bA;obtain ⟨b0,b1,fb⟩:=ai bB;obtain ⟨r0,r1,fr⟩:=ai bR;clear hx bA bB bR
  go_wp2
  rw [HR.out];refine bodyPost_ret (v:=.tuple #[.agg #[.int .i64 0,.int .i64 0],.bool false]) (by simp [results,Tryz.results210,go_sem,r0,r1]) rfl ⟨rfl,?_⟩;exact ((HX.out.trans X2.out).setCell (by simp;omega) _).setCell (by simp;omega) _
 have HA:=ae ha;have HB:=ae hb;obtain ⟨x1,x2,y1,y2⟩:=dg ha;obtain ⟨u1,u2,v1,v2⟩:=dg hb;have q1:in18 (x*u):=dm (by omega) (by omega);obtain ⟨e1,g1⟩:=br q1;have q2:in18 (y*v):=dm (by omega) (by omega);obtain ⟨e2,g2⟩:=br q2;obtain ⟨p,q,ok,hpq⟩:∃ p q ok,aL (x*u) (y*v)=((p,q),ok):=⟨_,_,_,rfl⟩;have HPQ:=ae hpq;have HR:=ae (show mulR (x,y) (u,v)=((p,q),ok) by simp [mulR,ha,hb,hpq]);clear ha hb hpq
 ·go_enter Tryz.func210,Tryz.ntmps210
  go_wp2_with fail;refine (ar x y _).mono ?_;rw [HA.out];rintro e w1 ⟨rfl,hx⟩;obtain ⟨bA,bB,bR⟩:=box3 hx;obtain ⟨a0,a1,fa⟩:=ai bA;obtain ⟨b0,b1,fb⟩:=ai bB;obtain ⟨r0,r1,fr⟩:=ai bR;have X1:=ae hx;clear hx bA bB bR;go_wp2_with fail;refine (ar u v _).mono ?_;rw [HB.out];rintro e w2 ⟨rfl,hx⟩;clear a0 a1 fa b0 b1 fb r0 r1 fr;have X2:=ae (X1.out.trans hx);obtain ⟨bA,bB,bR⟩:=box3 X2.out;obtain ⟨a0,a1,fa⟩:=ai bA;obtain ⟨b0,b1,fb⟩:=ai bB;obtain ⟨r0,r1,fr⟩:=ai bR;clear hx bA bB bR;go_wp2_with fail;refine (jL _ _ _).mono ?_;rw [HPQ.out];rintro e w3 ⟨rfl,hx⟩;clear a0 a1 fa b0 b1 fb r0 r1 fr;have X3:=ae (X2.out.trans hx);obtain ⟨bA,bB,bR⟩:=box3 X3.out;obtain ⟨a0,a1,fa⟩:=ai bA;obtain ⟨b0,b1,fb⟩:=ai bB;obtain ⟨r0,r1,fr⟩:=ai bR;clear hx bA bB bR
  go_wp2
  rw [HR.out];refine bodyPost_ret (v:=.tuple #[.agg #[.int .i64 p,.int .i64 q],.bool ok]) (by simp [results,Tryz.results210,go_sem,r0,r1]) rfl ⟨rfl,?_⟩;exact ((HX.out.trans X3.out).setCell (by simp;omega) _).setCell (by simp;omega) _
set_option maxHeartbeats 1000000 in
theorem pf (x y u v:Int) (w:World) :
 Calls Tryz.prog 211 #[ratV x y,ratV u v] w fun e w'=>e=.returned (resR (mulR (x,y) (u,v)))/\Ext w w':=by
 have HX:=ae (show Ext w (((w.alloc (.cells #[.int .i64 x,.int .i64 y] 43)).alloc (.cells #[.int .i64 u,.int .i64 v] 43)).alloc (.cells #[.int .i64 0,.int .i64 0] 43)) from ((Ext.alloc _ _).trans (Ext.alloc _ _)).trans (Ext.alloc _ _));cases ha:valR (x,y)
 ·have HA:=ae ha;have HR:=ae (show mulR (x,y) (u,v)=((0,0),false) by simp [mulR,ha]);clear ha;go_enter Tryz.func211,Tryz.ntmps211
  go_wp2_with fail;refine (aI x y _).mono ?_;rw [HA.out];rintro e w1 ⟨rfl,hx⟩;obtain ⟨bA,bB,bR⟩:=box3 hx;obtain ⟨a0,a1,fa⟩:=ai bA;obtain ⟨b0,b1,fb⟩:=ai bB;obtain ⟨r0,r1,fr⟩:=ai bR;have X1:=ae hx;clear hx bA bB bR
  go_wp2
  rw [HR.out];refine bodyPost_ret (v:=.tuple #[.agg #[.int .i64 0,.int .i64 0],.bool false]) (by simp [results,Tryz.results211,go_sem,r0,r1]) rfl ⟨rfl,?_⟩;exact ((HX.out.trans X1.out).setCell (by simp;omega) _).setCell (by simp;omega) _
 cases hb:valR (u,v)
 ·have HA:=ae ha;have HB:=ae hb;have HR:=ae (show mulR (x,y) (u,v)=((0,0),false) by simp [mulR,hb]);clear ha hb;go_enter Tryz.func211,Tryz.ntmps211
  go_wp2_with fail;refine (aI x y _).mono ?_;rw [HA.out];rintro e w1 ⟨rfl,hx⟩;obtain ⟨bA,bB,bR⟩:=box3 hx;obtain ⟨a0,a1,fa⟩:=ai bA;obtain ⟨b0,b1,fb⟩:=ai bB;obtain ⟨r0,r1,fr⟩:=ai bR;have X1:=ae hx;clear hx bA bB bR;go_wp2_with fail;refine (aI u v _).mono ?_;rw [HB.out];rintro e w2 ⟨rfl,hx⟩;clear a0 a1 fa b0 b1 fb r0 r1 fr;have X2:=ae (X1.out.trans hx);obtain ⟨bA,bB,bR⟩:=box3 X2.out;obtain ⟨a0,a1,fa⟩:=ai bA;obtain ⟨b0,b1,fb⟩:=ai bB;obtain ⟨r0,r1,fr⟩:=ai bR;clear hx bA bB bR
  go_wp2
  rw [HR.out];refine bodyPost_ret (v:=.tuple #[.agg #[.int .i64 0,.int .i64 0],.bool false]) (by simp [results,Tryz.results211,go_sem,r0,r1]) rfl ⟨rfl,?_⟩;exact ((HX.out.trans X2.out).setCell (by simp;omega) _).setCell (by simp;omega) _
 have HA:=ae ha;have HB:=ae hb;obtain ⟨x1,x2,y1,y2⟩:=dg ha;obtain ⟨u1,u2,v1,v2⟩:=dg hb;have q1:in18 (x*u):=dm (by omega) (by omega);obtain ⟨e1,g1⟩:=br q1;have q2:in18 (y*v):=dm (by omega) (by omega);obtain ⟨e2,g2⟩:=br q2;obtain ⟨p,q,ok,hpq⟩:∃ p q ok,aL (x*u) (y*v)=((p,q),ok):=⟨_,_,_,rfl⟩;have HPQ:=ae hpq;have HR:=ae (show mulR (x,y) (u,v)=((p,q),ok) by simp [mulR,ha,hb,hpq]);clear ha hb hpq
 ·go_enter Tryz.func211,Tryz.ntmps211
  go_wp2_with fail;refine (aI x y _).mono ?_;rw [HA.out];rintro e w1 ⟨rfl,hx⟩;obtain ⟨bA,bB,bR⟩:=box3 hx;obtain ⟨a0,a1,fa⟩:=ai bA;obtain ⟨b0,b1,fb⟩:=ai bB;obtain ⟨r0,r1,fr⟩:=ai bR;have X1:=ae hx;clear hx bA bB bR;go_wp2_with fail;refine (aI u v _).mono ?_;rw [HB.out];rintro e w2 ⟨rfl,hx⟩;clear a0 a1 fa b0 b1 fb r0 r1 fr;have X2:=ae (X1.out.trans hx);obtain ⟨bA,bB,bR⟩:=box3 X2.out;obtain ⟨a0,a1,fa⟩:=ai bA;obtain ⟨b0,b1,fb⟩:=ai bB;obtain ⟨r0,r1,fr⟩:=ai bR;clear hx bA bB bR;go_wp2_with fail;refine (iB _ _ _).mono ?_;rw [HPQ.out];rintro e w3 ⟨rfl,hx⟩;clear a0 a1 fa b0 b1 fb r0 r1 fr;have X3:=ae (X2.out.trans hx);obtain ⟨bA,bB,bR⟩:=box3 X3.out;obtain ⟨a0,a1,fa⟩:=ai bA;obtain ⟨b0,b1,fb⟩:=ai bB;obtain ⟨r0,r1,fr⟩:=ai bR;clear hx bA bB bR
  go_wp2
  rw [HR.out];refine bodyPost_ret (v:=.tuple #[.agg #[.int .i64 p,.int .i64 q],.bool ok]) (by simp [results,Tryz.results211,go_sem,r0,r1]) rfl ⟨rfl,?_⟩;exact ((HX.out.trans X3.out).setCell (by simp;omega) _).setCell (by simp;omega) _
set_option maxHeartbeats 1000000 in
theorem ov (x y u v:Int) (w:World) :
 Calls Tryz.prog 113 #[ratV x y,ratV u v] w fun e w'=>e=.returned (resR (divR (x,y) (u,v)))/\Ext w w':=by
 have HX:=ae (show Ext w (((w.alloc (.cells #[.int .i64 x,.int .i64 y] 43)).alloc (.cells #[.int .i64 u,.int .i64 v] 43)).alloc (.cells #[.int .i64 0,.int .i64 0] 43)) from ((Ext.alloc _ _).trans (Ext.alloc _ _)).trans (Ext.alloc _ _));cases ha:valR (x,y)
 ·have HA:=ae ha;have HR:=ae (show divR (x,y) (u,v)=((0,0),false) by simp [divR,ha]);clear ha;go_enter Tryz.func113,Tryz.ntmps113
  go_wp2_with fail;refine (ar x y _).mono ?_;rw [HA.out];rintro e w1 ⟨rfl,hx⟩;obtain ⟨bA,bB,bR⟩:=box3 hx;obtain ⟨a0,a1,fa⟩:=ai bA;obtain ⟨b0,b1,fb⟩:=ai bB;obtain ⟨r0,r1,fr⟩:=ai bR;have X1:=ae hx;clear hx bA bB bR
  go_wp2
  rw [HR.out];refine bodyPost_ret (v:=.tuple #[.agg #[.int .i64 0,.int .i64 0],.bool false]) (by simp [results,Tryz.results113,go_sem,r0,r1]) rfl ⟨rfl,?_⟩;exact ((HX.out.trans X1.out).setCell (by simp;omega) _).setCell (by simp;omega) _
 cases hb:valR (u,v)
 ·have HA:=ae ha;have HB:=ae hb;have HR:=ae (show divR (x,y) (u,v)=((0,0),false) by simp [divR,hb]);clear ha hb;go_enter Tryz.func113,Tryz.ntmps113
  go_wp2_with fail;refine (ar x y _).mono ?_;rw [HA.out];rintro e w1 ⟨rfl,hx⟩;obtain ⟨bA,bB,bR⟩:=box3 hx;obtain ⟨a0,a1,fa⟩:=ai bA;obtain ⟨b0,b1,fb⟩:=ai bB;obtain ⟨r0,r1,fr⟩:=ai bR;have X1:=ae hx;clear hx bA bB bR;go_wp2_with fail;refine (ar u v _).mono ?_;rw [HB.out];rintro e w2 ⟨rfl,hx⟩;clear a0 a1 fa b0 b1 fb r0 r1 fr;have X2:=ae (X1.out.trans hx);obtain ⟨bA,bB,bR⟩:=box3 X2.out;obtain ⟨a0,a1,fa⟩:=ai bA;obtain ⟨b0,b1,fb⟩:=ai bB;obtain ⟨r0,r1,fr⟩:=ai bR;clear hx bA bB bR
  go_wp2
  rw [HR.out];refine bodyPost_ret (v:=.tuple #[.agg #[.int .i64 0,.int .i64 0],.bool false]) (by simp [results,Tryz.results113,go_sem,r0,r1]) rfl ⟨rfl,?_⟩;exact ((HX.out.trans X2.out).setCell (by simp;omega) _).setCell (by simp;omega) _
 have HA:=ae ha;have HB:=ae hb;obtain ⟨x1,x2,y1,y2⟩:=dg ha;obtain ⟨u1,u2,v1,v2⟩:=dg hb;have q1:in18 (x*v):=dm (by omega) (by omega);obtain ⟨e1,g1⟩:=br q1;have q2:in18 (y*u):=dm (by omega) (by omega);obtain ⟨e2,g2⟩:=br q2;obtain ⟨p,q,ok,hpq⟩:∃ p q ok,aL (x*v) (y*u)=((p,q),ok):=⟨_,_,_,rfl⟩;have HPQ:=ae hpq;have HR:=ae (show divR (x,y) (u,v)=((p,q),ok) by simp [divR,ha,hb,hpq]);clear ha hb hpq
 ·go_enter Tryz.func113,Tryz.ntmps113
  go_wp2_with fail;refine (ar x y _).mono ?_;rw [HA.out];rintro e w1 ⟨rfl,hx⟩;obtain ⟨bA,bB,bR⟩:=box3 hx;obtain ⟨a0,a1,fa⟩:=ai bA;obtain ⟨b0,b1,fb⟩:=ai bB;obtain ⟨r0,r1,fr⟩:=ai bR;have X1:=ae hx;clear hx bA bB bR;go_wp2_with fail;refine (ar u v _).mono ?_;rw [HB.out];rintro e w2 ⟨rfl,hx⟩;clear a0 a1 fa b0 b1 fb r0 r1 fr;have X2:=ae (X1.out.trans hx);obtain ⟨bA,bB,bR⟩:=box3 X2.out;obtain ⟨a0,a1,fa⟩:=ai bA;obtain ⟨b0,b1,fb⟩:=ai bB;obtain ⟨r0,r1,fr⟩:=ai bR;clear hx bA bB bR;go_wp2_with fail;refine (jL _ _ _).mono ?_;rw [HPQ.out];rintro e w3 ⟨rfl,hx⟩;clear a0 a1 fa b0 b1 fb r0 r1 fr;have X3:=ae (X2.out.trans hx);obtain ⟨bA,bB,bR⟩:=box3 X3.out;obtain ⟨a0,a1,fa⟩:=ai bA;obtain ⟨b0,b1,fb⟩:=ai bB;obtain ⟨r0,r1,fr⟩:=ai bR;clear hx bA bB bR
  go_wp2
  rw [HR.out];refine bodyPost_ret (v:=.tuple #[.agg #[.int .i64 p,.int .i64 q],.bool ok]) (by simp [results,Tryz.results113,go_sem,r0,r1]) rfl ⟨rfl,?_⟩;exact ((HX.out.trans X3.out).setCell (by simp;omega) _).setCell (by simp;omega) _
set_option maxHeartbeats 1000000 in
theorem oY (x y u v:Int) (w:World) :
 Calls Tryz.prog 183 #[ratV x y,ratV u v] w fun e w'=>e=.returned (resR (divR (x,y) (u,v)))/\Ext w w':=by
 have HX:=ae (show Ext w (((w.alloc (.cells #[.int .i64 x,.int .i64 y] 43)).alloc (.cells #[.int .i64 u,.int .i64 v] 43)).alloc (.cells #[.int .i64 0,.int .i64 0] 43)) from ((Ext.alloc _ _).trans (Ext.alloc _ _)).trans (Ext.alloc _ _));cases ha:valR (x,y)
 ·have HA:=ae ha;have HR:=ae (show divR (x,y) (u,v)=((0,0),false) by simp [divR,ha]);clear ha;go_enter Tryz.func183,Tryz.ntmps183
  go_wp2_with fail;refine (aI x y _).mono ?_;rw [HA.out];rintro e w1 ⟨rfl,hx⟩;obtain ⟨bA,bB,bR⟩:=box3 hx;obtain ⟨a0,a1,fa⟩:=ai bA;obtain ⟨b0,b1,fb⟩:=ai bB;obtain ⟨r0,r1,fr⟩:=ai bR;have X1:=ae hx;clear hx bA bB bR
  go_wp2
  rw [HR.out];refine bodyPost_ret (v:=.tuple #[.agg #[.int .i64 0,.int .i64 0],.bool false]) (by simp [results,Tryz.results183,go_sem,r0,r1]) rfl ⟨rfl,?_⟩;exact ((HX.out.trans X1.out).setCell (by simp;omega) _).setCell (by simp;omega) _
 cases hb:valR (u,v)
 ·have HA:=ae ha;have HB:=ae hb;have HR:=ae (show divR (x,y) (u,v)=((0,0),false) by simp [divR,hb]);clear ha hb;go_enter Tryz.func183,Tryz.ntmps183
  go_wp2_with fail;refine (aI x y _).mono ?_;rw [HA.out];rintro e w1 ⟨rfl,hx⟩;obtain ⟨bA,bB,bR⟩:=box3 hx;obtain ⟨a0,a1,fa⟩:=ai bA;obtain ⟨b0,b1,fb⟩:=ai bB;obtain ⟨r0,r1,fr⟩:=ai bR;have X1:=ae hx;clear hx bA bB bR;go_wp2_with fail;refine (aI u v _).mono ?_;rw [HB.out];rintro e w2 ⟨rfl,hx⟩;clear a0 a1 fa b0 b1 fb r0 r1 fr;have X2:=ae (X1.out.trans hx);obtain ⟨bA,bB,bR⟩:=box3 X2.out;obtain ⟨a0,a1,fa⟩:=ai bA;obtain ⟨b0,b1,fb⟩:=ai bB;obtain ⟨r0,r1,fr⟩:=ai bR;clear hx bA bB bR
  go_wp2
  rw [HR.out];refine bodyPost_ret (v:=.tuple #[.agg #[.int .i64 0,.int .i64 0],.bool false]) (by simp [results,Tryz.results183,go_sem,r0,r1]) rfl ⟨rfl,?_⟩;exact ((HX.out.trans X2.out).setCell (by simp;omega) _).setCell (by simp;omega) _
 have HA:=ae ha;have HB:=ae hb;obtain ⟨x1,x2,y1,y2⟩:=dg ha;obtain ⟨u1,u2,v1,v2⟩:=dg hb;have q1:in18 (x*v):=dm (by omega) (by omega);obtain ⟨e1,g1⟩:=br q1;have q2:in18 (y*u):=dm (by omega) (by omega);obtain ⟨e2,g2⟩:=br q2;obtain ⟨p,q,ok,hpq⟩:∃ p q ok,aL (x*v) (y*u)=((p,q),ok):=⟨_,_,_,rfl⟩;have HPQ:=ae hpq;have HR:=ae (show divR (x,y) (u,v)=((p,q),ok) by simp [divR,ha,hb,hpq]);clear ha hb hpq
 ·go_enter Tryz.func183,Tryz.ntmps183
  go_wp2_with fail;refine (aI x y _).mono ?_;rw [HA.out];rintro e w1 ⟨rfl,hx⟩;obtain ⟨bA,bB,bR⟩:=box3 hx;obtain ⟨a0,a1,fa⟩:=ai bA;obtain ⟨b0,b1,fb⟩:=ai bB;obtain ⟨r0,r1,fr⟩:=ai bR;have X1:=ae hx;clear hx bA bB bR;go_wp2_with fail;refine (aI u v _).mono ?_;rw [HB.out];rintro e w2 ⟨rfl,hx⟩;clear a0 a1 fa b0 b1 fb r0 r1 fr;have X2:=ae (X1.out.trans hx);obtain ⟨bA,bB,bR⟩:=box3 X2.out;obtain ⟨a0,a1,fa⟩:=ai bA;obtain ⟨b0,b1,fb⟩:=ai bB;obtain ⟨r0,r1,fr⟩:=ai bR;clear hx bA bB bR;go_wp2_with fail;refine (iB _ _ _).mono ?_;rw [HPQ.out];rintro e w3 ⟨rfl,hx⟩;clear a0 a1 fa b0 b1 fb r0 r1 fr;have X3:=ae (X2.out.trans hx);obtain ⟨bA,bB,bR⟩:=box3 X3.out;obtain ⟨a0,a1,fa⟩:=ai bA;obtain ⟨b0,b1,fb⟩:=ai bB;obtain ⟨r0,r1,fr⟩:=ai bR;clear hx bA bB bR
  go_wp2
  rw [HR.out];refine bodyPost_ret (v:=.tuple #[.agg #[.int .i64 p,.int .i64 q],.bool ok]) (by simp [results,Tryz.results183,go_sem,r0,r1]) rfl ⟨rfl,?_⟩;exact ((HX.out.trans X3.out).setCell (by simp;omega) _).setCell (by simp;omega) _
set_option maxHeartbeats 1000000 in
theorem gY (x y u v:Int) (w:World) :
 Calls Tryz.prog 38 #[ratV x y,ratV u v] w fun e w'=>e=.returned (.int .i64 (cmpR (x,y) (u,v)))/\Ext w w':=by
 have HX:=ae (show Ext w ((w.alloc (.cells #[.int .i64 x,.int .i64 y] 43)).alloc (.cells #[.int .i64 u,.int .i64 v] 43)) from (Ext.alloc _ _).trans (Ext.alloc _ _));cases ha:valR (x,y)
 ·have HA:=ae ha;have HR:=ae (show cmpR (x,y) (u,v)=0 by simp [cmpR,ha]);clear ha;go_enter Tryz.func38,Tryz.ntmps38
  go_wp2_with fail;refine (ar x y _).mono ?_;rw [HA.out];rintro e w1 ⟨rfl,hx⟩;obtain ⟨bA,bB⟩:=box2 hx;obtain ⟨a0,a1,fa⟩:=ai bA;obtain ⟨b0,b1,fb⟩:=ai bB;have X1:=ae hx;clear hx bA bB
  go_wp2
  go_ret;exact ⟨aQ HR.out.symm,HX.out.trans X1.out⟩
 cases hb:valR (u,v)
 ·have HA:=ae ha;have HB:=ae hb;have HR:=ae (show cmpR (x,y) (u,v)=0 by simp [cmpR,hb]);clear ha hb;go_enter Tryz.func38,Tryz.ntmps38
  go_wp2_with fail;refine (ar x y _).mono ?_;rw [HA.out];rintro e w1 ⟨rfl,hx⟩;obtain ⟨bA,bB⟩:=box2 hx;obtain ⟨a0,a1,fa⟩:=ai bA;obtain ⟨b0,b1,fb⟩:=ai bB;have X1:=ae hx;clear hx bA bB;go_wp2_with fail;refine (ar u v _).mono ?_;rw [HB.out];rintro e w2 ⟨rfl,hx⟩;clear a0 a1 fa b0 b1 fb;have X2:=ae (X1.out.trans hx);obtain ⟨bA,bB⟩:=box2 X2.out;obtain ⟨a0,a1,fa⟩:=ai bA;obtain ⟨b0,b1,fb⟩:=ai bB;clear hx bA bB
  go_wp2
  go_ret;exact ⟨aQ HR.out.symm,HX.out.trans X2.out⟩
 have HA:=ae ha;have HB:=ae hb;obtain ⟨x1,x2,y1,y2⟩:=dg ha;obtain ⟨u1,u2,v1,v2⟩:=dg hb;have q1:in18 (x*v):=dm (by omega) (by omega);have q2:in18 (u*y):=dm (by omega) (by omega);obtain ⟨e1,g1⟩:=br q1;obtain ⟨e2,g2⟩:=br q2;have hR:cmpR (x,y) (u,v)=(if x*v<u*y then -1 else if u*y<x*v then 1 else 0):=by simp [cmpR,ha,hb]
 obtain ⟨P,hP⟩:∃ P,P=x*v:=⟨_,rfl⟩;obtain ⟨Q,hQ⟩:∃ Q,Q=u*y:=⟨_,rfl⟩;rw [<-hP,<-hQ] at hR;rw [<-hP] at e1 g1;rw [<-hQ] at e2 g2;have HR:=ae hR;have hP':=hP.symm;have hQ':=hQ.symm;clear ha hb hR q1 q2 hP hQ;by_cases h1:P<Q
 ·go_enter Tryz.func38,Tryz.ntmps38
  go_wp2_with fail;refine (ar x y _).mono ?_;rw [HA.out];rintro e w1 ⟨rfl,hx⟩;obtain ⟨bA,bB⟩:=box2 hx;obtain ⟨a0,a1,fa⟩:=ai bA;obtain ⟨b0,b1,fb⟩:=ai bB;have X1:=ae hx;clear hx bA bB;go_wp2_with fail;refine (ar u v _).mono ?_;rw [HB.out];rintro e w2 ⟨rfl,hx⟩;clear a0 a1 fa b0 b1 fb;have X2:=ae (X1.out.trans hx);obtain ⟨bA,bB⟩:=box2 X2.out;obtain ⟨a0,a1,fa⟩:=ai bA;obtain ⟨b0,b1,fb⟩:=ai bB;clear hx bA bB
  go_wp2
  go_quiet (fail)
  go_wp2
  go_ret;exact ⟨aQ (by rw [HR.out,if_pos (by omega)]),HX.out.trans (X2.out.trans (Drew.ext ⟨_,rfl⟩))⟩
 by_cases h2:Q<P
 ·go_enter Tryz.func38,Tryz.ntmps38
  go_wp2_with fail;refine (ar x y _).mono ?_;rw [HA.out];rintro e w1 ⟨rfl,hx⟩;obtain ⟨bA,bB⟩:=box2 hx;obtain ⟨a0,a1,fa⟩:=ai bA;obtain ⟨b0,b1,fb⟩:=ai bB;have X1:=ae hx;clear hx bA bB;go_wp2_with fail;refine (ar u v _).mono ?_;rw [HB.out];rintro e w2 ⟨rfl,hx⟩;clear a0 a1 fa b0 b1 fb;have X2:=ae (X1.out.trans hx);obtain ⟨bA,bB⟩:=box2 X2.out;obtain ⟨a0,a1,fa⟩:=ai bA;obtain ⟨b0,b1,fb⟩:=ai bB;clear hx bA bB
  go_wp2
  go_quiet (fail)
  go_wp2
  go_ret;exact ⟨aQ (by rw [HR.out,if_neg (by omega),if_pos (by omega)]),HX.out.trans (X2.out.trans (Drew.ext ⟨_,rfl⟩))⟩
 ·go_enter Tryz.func38,Tryz.ntmps38
  go_wp2_with fail;refine (ar x y _).mono ?_;rw [HA.out];rintro e w1 ⟨rfl,hx⟩;obtain ⟨bA,bB⟩:=box2 hx;obtain ⟨a0,a1,fa⟩:=ai bA;obtain ⟨b0,b1,fb⟩:=ai bB;have X1:=ae hx;clear hx bA bB;go_wp2_with fail;refine (ar u v _).mono ?_;rw [HB.out];rintro e w2 ⟨rfl,hx⟩;clear a0 a1 fa b0 b1 fb;have X2:=ae (X1.out.trans hx);obtain ⟨bA,bB⟩:=box2 X2.out;obtain ⟨a0,a1,fa⟩:=ai bA;obtain ⟨b0,b1,fb⟩:=ai bB;clear hx bA bB
  go_wp2
  go_quiet (fail)
  go_wp2
  go_ret;exact ⟨aQ (by rw [HR.out,if_neg (by omega),if_neg (by omega)]),HX.out.trans (X2.out.trans (Drew.ext ⟨_,rfl⟩))⟩
set_option maxHeartbeats 1000000 in
theorem eL (x y u v:Int) (w:World) :
 Calls Tryz.prog 147 #[ratV x y,ratV u v] w fun e w'=>e=.returned (.int .i64 (cmpR (x,y) (u,v)))/\Ext w w':=by
 have HX:=ae (show Ext w ((w.alloc (.cells #[.int .i64 x,.int .i64 y] 43)).alloc (.cells #[.int .i64 u,.int .i64 v] 43)) from (Ext.alloc _ _).trans (Ext.alloc _ _));cases ha:valR (x,y)
 ·have HA:=ae ha;have HR:=ae (show cmpR (x,y) (u,v)=0 by simp [cmpR,ha]);clear ha;go_enter Tryz.func147,Tryz.ntmps147
  go_wp2_with fail;refine (aI x y _).mono ?_;rw [HA.out];rintro e w1 ⟨rfl,hx⟩;obtain ⟨bA,bB⟩:=box2 hx;obtain ⟨a0,a1,fa⟩:=ai bA;obtain ⟨b0,b1,fb⟩:=ai bB;have X1:=ae hx;clear hx bA bB
  go_wp2
  go_ret;exact ⟨aQ HR.out.symm,HX.out.trans X1.out⟩
 cases hb:valR (u,v)
 ·have HA:=ae ha;have HB:=ae hb;have HR:=ae (show cmpR (x,y) (u,v)=0 by simp [cmpR,hb]);clear ha hb;go_enter Tryz.func147,Tryz.ntmps147
  go_wp2_with fail;refine (aI x y _).mono ?_;rw [HA.out];rintro e w1 ⟨rfl,hx⟩;obtain ⟨bA,bB⟩:=box2 hx;obtain ⟨a0,a1,fa⟩:=ai bA;obtain ⟨b0,b1,fb⟩:=ai bB;have X1:=ae hx;clear hx bA bB;go_wp2_with fail;refine (aI u v _).mono ?_;rw [HB.out];rintro e w2 ⟨rfl,hx⟩;clear a0 a1 fa b0 b1 fb;have X2:=ae (X1.out.trans hx);obtain ⟨bA,bB⟩:=box2 X2.out;obtain ⟨a0,a1,fa⟩:=ai bA;obtain ⟨b0,b1,fb⟩:=ai bB;clear hx bA bB
  go_wp2
  go_ret;exact ⟨aQ HR.out.symm,HX.out.trans X2.out⟩
 have HA:=ae ha;have HB:=ae hb;obtain ⟨x1,x2,y1,y2⟩:=dg ha;obtain ⟨u1,u2,v1,v2⟩:=dg hb;have q1:in18 (x*v):=dm (by omega) (by omega);have q2:in18 (u*y):=dm (by omega) (by omega);obtain ⟨e1,g1⟩:=br q1;obtain ⟨e2,g2⟩:=br q2;have hR:cmpR (x,y) (u,v)=(if x*v<u*y then -1 else if u*y<x*v then 1 else 0):=by simp [cmpR,ha,hb]
 obtain ⟨P,hP⟩:∃ P,P=x*v:=⟨_,rfl⟩;obtain ⟨Q,hQ⟩:∃ Q,Q=u*y:=⟨_,rfl⟩;rw [<-hP,<-hQ] at hR;rw [<-hP] at e1 g1;rw [<-hQ] at e2 g2;have HR:=ae hR;have hP':=hP.symm;have hQ':=hQ.symm;clear ha hb hR q1 q2 hP hQ;by_cases h1:P<Q
 ·go_enter Tryz.func147,Tryz.ntmps147
  go_wp2_with fail;refine (aI x y _).mono ?_;rw [HA.out];rintro e w1 ⟨rfl,hx⟩;obtain ⟨bA,bB⟩:=box2 hx;obtain ⟨a0,a1,fa⟩:=ai bA;obtain ⟨b0,b1,fb⟩:=ai bB;have X1:=ae hx;clear hx bA bB;go_wp2_with fail;refine (aI u v _).mono ?_;rw [HB.out];rintro e w2 ⟨rfl,hx⟩;clear a0 a1 fa b0 b1 fb;have X2:=ae (X1.out.trans hx);obtain ⟨bA,bB⟩:=box2 X2.out;obtain ⟨a0,a1,fa⟩:=ai bA;obtain ⟨b0,b1,fb⟩:=ai bB;clear hx bA bB
  go_wp2
  go_ret;exact ⟨aQ (by rw [HR.out,if_pos (by omega)]),HX.out.trans X2.out⟩
 by_cases h2:Q<P
 ·go_enter Tryz.func147,Tryz.ntmps147
  go_wp2_with fail;refine (aI x y _).mono ?_;rw [HA.out];rintro e w1 ⟨rfl,hx⟩;obtain ⟨bA,bB⟩:=box2 hx;obtain ⟨a0,a1,fa⟩:=ai bA;obtain ⟨b0,b1,fb⟩:=ai bB;have X1:=ae hx;clear hx bA bB;go_wp2_with fail;refine (aI u v _).mono ?_;rw [HB.out];rintro e w2 ⟨rfl,hx⟩;clear a0 a1 fa b0 b1 fb;have X2:=ae (X1.out.trans hx);obtain ⟨bA,bB⟩:=box2 X2.out;obtain ⟨a0,a1,fa⟩:=ai bA;obtain ⟨b0,b1,fb⟩:=ai bB;clear hx bA bB
  go_wp2
  go_ret;exact ⟨aQ (by rw [HR.out,if_neg (by omega),if_pos (by omega)]),HX.out.trans X2.out⟩
 ·go_enter Tryz.func147,Tryz.ntmps147
  go_wp2_with fail;refine (aI x y _).mono ?_;rw [HA.out];rintro e w1 ⟨rfl,hx⟩;obtain ⟨bA,bB⟩:=box2 hx;obtain ⟨a0,a1,fa⟩:=ai bA;obtain ⟨b0,b1,fb⟩:=ai bB;have X1:=ae hx;clear hx bA bB;go_wp2_with fail;refine (aI u v _).mono ?_;rw [HB.out];rintro e w2 ⟨rfl,hx⟩;clear a0 a1 fa b0 b1 fb;have X2:=ae (X1.out.trans hx);obtain ⟨bA,bB⟩:=box2 X2.out;obtain ⟨a0,a1,fa⟩:=ai bA;obtain ⟨b0,b1,fb⟩:=ai bB;clear hx bA bB
  go_wp2
  go_ret;exact ⟨aQ (by rw [HR.out,if_neg (by omega),if_neg (by omega)]),HX.out.trans X2.out⟩
set_option maxHeartbeats 1000000 in
theorem kG (x y u v:Int) (w:World) :
 Calls Tryz.prog 184 #[ratV x y,ratV u v] w fun e w'=>e=.returned (resR (subR (x,y) (u,v)))/\Ext w w':=by
 have HX:=ae (show Ext w (((w.alloc (.cells #[.int .i64 x,.int .i64 y] 43)).alloc (.cells #[.int .i64 u,.int .i64 v] 43)).alloc (.cells #[.int .i64 0,.int .i64 0] 43)) from ((Ext.alloc _ _).trans (Ext.alloc _ _)).trans (Ext.alloc _ _));cases hb:valR (u,v)
 ·have HB:=ae hb;have HR:=ae (show subR (x,y) (u,v)=((0,0),false) by simp [subR,hb]);clear hb;go_enter Tryz.func184,Tryz.ntmps184
  go_wp2_with fail;refine (aI u v _).mono ?_;rw [HB.out];rintro e w1 ⟨rfl,hx⟩;obtain ⟨bA,bB,bR⟩:=box3 hx;obtain ⟨a0,a1,fa⟩:=ai bA;obtain ⟨b0,b1,fb⟩:=ai bB;obtain ⟨r0,r1,fr⟩:=ai bR;have X1:=ae hx;clear hx bA bB bR
  go_wp2
  rw [HR.out];refine bodyPost_ret (v:=.tuple #[.agg #[.int .i64 0,.int .i64 0],.bool false]) (by simp [results,Tryz.results184,go_sem,r0,r1]) rfl ⟨rfl,?_⟩;exact ((HX.out.trans X1.out).setCell (by simp;omega) _).setCell (by simp;omega) _
 ·have HB:=ae hb;obtain ⟨u1,u2,v1,v2⟩:=dg hb;obtain ⟨p,q,ok,hpq⟩:∃ p q ok,addR (x,y) (-u,v)=((p,q),ok):=⟨_,_,_,rfl⟩;have HPQ:=ae hpq;have HR:=ae (show subR (x,y) (u,v)=((p,q),ok) by rw [<-kM];exact hpq);clear hb hpq;go_enter Tryz.func184,Tryz.ntmps184
  go_wp2_with fail;refine (aI u v _).mono ?_;rw [HB.out];rintro e w1 ⟨rfl,hx⟩;obtain ⟨bA,bB,bR⟩:=box3 hx;obtain ⟨a0,a1,fa⟩:=ai bA;obtain ⟨b0,b1,fb⟩:=ai bB;obtain ⟨r0,r1,fr⟩:=ai bR;have X1:=ae hx;have HBA:=ae bA;have HBR:=ae bR;have hl:=lt_of_block bR;clear hx bA bB bR;go_wp2_with fail;refine (iW _ _ _ _ _).mono ?_;rw [HPQ.out];rintro e w3 ⟨rfl,hx⟩;have hz:Ext w (w1.setCell ⟨w.heap.size+1,0,none⟩ (.int .i64 (-u))):=(HX.out.trans X1.out).setCell (by simp) _;have X3:=ae (hz.trans hx);clear hz;have bR:w3.heap[w.heap.size+1+1]?=some (.cells #[.int .i64 0,.int .i64 0] 43 (0,0)):=(hx.block _ (by simp;omega)).trans ((heap_setCell_other _ _ _ _ (by simp)).trans HBR.out);clear a0 a1 fa b0 b1 fb r0 r1 fr;obtain ⟨r0,r1,fr⟩:=ai bR;clear hx bR
  go_wp2
  rw [HR.out];refine bodyPost_ret (v:=.tuple #[.agg #[.int .i64 p,.int .i64 q],.bool ok]) (by simp [results,Tryz.results184,go_sem,r0,r1]) rfl ⟨rfl,?_⟩;exact (X3.out.setCell (by simp;omega) _).setCell (by simp;omega) _
structure ah (w W:World) (g:Nat) (p q:Int):Prop where
 ext:Ext w W
 ge:w.heap.size<=g
 cell:W.heap[g]?=some (.cells #[.int .i64 p,.int .i64 q] 43 (0,0))
theorem ah.lt {w W:World} {g:Nat} {p q:Int} (h:ah w W g p q):g<W.heap.size:=lt_of_block h.cell
theorem ah.grow {w W W':World} {g:Nat} {p q:Int} (h:ah w W g p q) (hx:Ext W W'):ah w W' g p q :=
 ⟨h.ext.trans hx,h.ge,(hx.block _ h.lt).trans h.cell⟩
theorem ah.c0 {w W:World} {g:Nat} {p q:Int} (h:ah w W g p q):W.cell? ⟨g,0,none⟩=some (.int .i64 p):=(ai h.cell).1
theorem ah.c1 {w W:World} {g:Nat} {p q:Int} (h:ah w W g p q):W.cell? ⟨g,1,none⟩=some (.int .i64 q):=(ai h.cell).2.1
theorem ah.free {w W:World} {g:Nat} {p q:Int} (h:ah w W g p q) (o:Nat):W.frozen? ⟨g,o,none⟩=false:=(ai h.cell).2.2 o
theorem ah.new {w W:World} (h:Ext w W) (p q:Int):ah w (W.alloc (.cells #[.int .i64 p,.int .i64 q] 43)) W.heap.size p q :=
 ⟨h.trans (Ext.alloc _ _),h.size,heap_alloc_new _ _⟩
theorem ah.new' {w W:World} (h:Ext w W) (p q:Int) {n:Nat} (hn:n=W.heap.size):ah w (W.alloc (.cells #[.int .i64 p,.int .i64 q] 43)) n p q:=by
 subst hn;exact ah.new h p q
theorem ah.put {w W:World} {g:Nat} {p q:Int} (h:ah w W g p q) (p' q':Int):ah w ((W.setCell ⟨g,0,none⟩ (.int .i64 p')).setCell ⟨g,1,none⟩ (.int .i64 q')) g p' q' :=
 ⟨(h.ext.setCell (p:=⟨g,0,none⟩) h.ge (.int .i64 p')).setCell (p:=⟨g,1,none⟩) h.ge (.int .i64 q'),h.ge,by rw [heap_setCell_same _ _ _ _ _ _ (heap_setCell_same _ _ _ _ _ _ h.cell)];rfl⟩
theorem ah.firstD {w w':World} (h:Ext (w.alloc (.cells #[.int .i64 0,.int .i64 0] 43)).drew w'):ah w w' w.heap.size 0 0 :=
 ah.grow ⟨(Ext.alloc _ _).trans (Ext.drew _),Nat.le_refl _,heap_alloc_new w _⟩ h
theorem ah.laterD {w W w':World} (h:Ext w W) (hx:Ext (W.alloc (.cells #[.int .i64 0,.int .i64 0] 43)) w'):ah w w' W.heap.size 0 0 :=
 ah.grow (ah.new h 0 0) hx
def runT (f:Nat->Option (Int × Int)):Nat->Option (List (Int × Int))
 | 0=>some []
 | m+1=>(runT f m).bind fun l=>(f m).map fun x=>l++[x]
theorem du {f:Nat->Option (Int × Int)} {k:Nat} {r:List (Int × Int)} {x:Int × Int} (h:runT f k=some r) (hx:f k=some x):runT f (k+1)=some (r++[x]):=by simp [runT,h,hx]
theorem lN {f:Nat->Option (Int × Int)} {k:Nat} (h:runT f k=none):∀ {n:Nat},k<=n->runT f n=none
 | n,hn=>by
   obtain ⟨d,rfl⟩:∃ d,n=k+d:=⟨n-k,by omega⟩;clear hn
   induction d with
   | zero=>exact h
   | succ d ih=>show (runT f (k+d)).bind _=none;rw [ih];rfl
theorem fu {f:Nat->Option (Int × Int)} {k n:Nat} {r:List (Int × Int)} (h:runT f k=some r) (hx:f k=none) (hn:k<n):runT f n=none :=
 lN (k:=k+1) (by simp [runT,h,hx]) (by omega)
theorem cI {f:Nat->Option (Int × Int)}:∀ {k:Nat} {r:List (Int × Int)},runT f k=some r->r.length=k
 | 0,r,h=>by simp only [runT,Option.some.injEq] at h;rw [<-h];rfl
 | k+1,r,h=>by
   cases hk:runT f k with
   | none=>simp [runT,hk] at h
   | some l =>
     cases hf:f k with
     | none=>simp [runT,hk,hf] at h
     | some x =>
       rw [du hk hf] at h;simp only [Option.some.injEq] at h;rw [<-h,List.length_append,cI hk]
       rfl
theorem gS {f:Nat->Option (Int × Int)}:∀ {k:Nat} {r:List (Int × Int)},runT f k=some r->∀ i,i<k->f i=some (r[i]?.getD (0,0))
 | 0,r,h=>fun i hi=>absurd hi (by omega)
 | k+1,r,h=>fun i hi=>by
   cases hk:runT f k with
   | none=>simp [runT,hk] at h
   | some l =>
     cases hf:f k with
     | none=>simp [runT,hk,hf] at h
     | some x =>
       rw [du hk hf] at h;simp only [Option.some.injEq] at h;subst h;have hl:=cI hk;by_cases hik:i<k
       ·rw [List.getElem?_append_left (by omega)];exact gS hk i hik
       ·obtain rfl:i=k:=by omega
        rw [<-hl,List.getElem?_concat_length,Option.getD_some,hl,hf]
theorem oX {f:Nat->Option (Int × Int)} {F:Nat->Int × Int}:∀ {k:Nat},(∀ i,i<k->f i=some (F i))->runT f k=some ((List.range k).map F)
 | 0,_=>rfl
 | k+1,h=>by
   rw [du (oX fun i hi=>h i (by omega)) (h k (by omega)),List.range_succ,List.map_append]
   rfl
def sclF (A:List (Int × Int)) (k:Int × Int) (B:List (Int × Int)) (i:Nat):Option (Int × Int) :=
 if (mulR k (B[i]?.getD (0,0))).2=true/\(addR (A[i]?.getD (0,0)) (mulR k (B[i]?.getD (0,0))).1).2=true then some (addR (A[i]?.getD (0,0)) (mulR k (B[i]?.getD (0,0))).1).1 else none
def sclL (A:List (Int × Int)) (k:Int × Int) (B:List (Int × Int)):Option (List (Int × Int)):=if A.length=B.length then runT (sclF A k B) A.length else none
def au (C:List Int):List (Int × Int):=C.map fun c=>(c,1)
theorem ew (C:List Int):(au C).length=C.length:=by simp [au]
theorem jG {C:List Int} {k:Nat} (h:k<C.length):(au C)[k]?.getD (0,0)=(C[k]?.getD 0,1):=by simp [au,h]
def fitL (C:List Int):Bool:=C.all fun c=>inB c (-1000000000) 1000000000
end Go.Proofs.YthjjfkeacobikaaGreat
