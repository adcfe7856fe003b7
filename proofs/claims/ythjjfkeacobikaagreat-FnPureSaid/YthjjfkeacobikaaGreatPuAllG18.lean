import Derived.Test.YthjjfkeacobikaaGreatPuAllG2
import Derived.Test.YthjjfkeacobikaaGreatPuAllG0
import Derived.Deep.DeepCutAuto
import Derived.Test.YthjjfkeacobikaaGreatPuAllG4
import Derived.Test.YthjjfkeacobikaaGreatPuAllG13
set_option linter.unusedVariables false
set_option linter.unusedSimpArgs false
namespace Go.Proofs.YthjjfkeacobikaaGreat
set_option maxRecDepth 100000
open Go.RowKit
def popT (s:Nat) (k:Nat):Nat:=(List.range k).countP fun j=>bit (s:Int) j
theorem pV (s k:Nat):popT s (k+1)=popT s k+if bit (s:Int) k then 1 else 0:=by
 unfold popT;rw [List.range_succ,List.countP_append];simp [List.countP_cons]
theorem nX (s k:Nat):popT s k<=k:=by unfold popT;exact Nat.le_trans List.countP_le_length (by simp)
set_option maxHeartbeats 4000000 in
theorem jq (s:Nat) (hs:s<4294967296) (w:World):Calls Tryz.prog 245 #[.int .i64 (s:Int)] w fun e w'=>e=.returned (.int .i64 (popT s 5:Int))/\w=w':=by
 go_enter Tryz.func245,Tryz.ntmps245
 go_wp2_with fail
 go_loop [3,4] (fun nn kk=>∃ k:Nat,k<=5/\kk=.int .i64 (k:Int)/\nn=.int .i64 (popT s k:Int)) (fun _ kk=>5-(intOf kk).toNat)
 case atStart=>exact ⟨0,by omega,rfl,rfl⟩
 case round =>
  obtain ⟨k,hk,rfl,rfl⟩:=hrel;have hple:=nX s k;by_cases hlt:k<5
  ·have HP:=ae (gF (s:Int) (k:Int) w (by omega));have HB:=ae (hasP_bit (s:Int) k (by omega) (by omega));have HS:=ae (pV s k);cases hb:bit (s:Int) k
   all_goals
    rw [HB.out,hb] at HP;rw [hb] at HS;clear hb;go_wp2_with fail;refine HP.out.mono ?_;rintro e w' ⟨rfl,rfl⟩;go_wp2_with fail
    go_round
    case rel=>exact ⟨k+1,by omega,by go_num,by rw [HS.out];go_num⟩
    case measure=>simp [intOf];omega
  ·have hk5:k=5:=by omega
   subst hk5;go_wp2_with fail;go_ret;exact ⟨rfl,rfl⟩
def Tiny (V:List Int):Prop:=∀ k:Nat,-100<=V[k]?.getD 0/\V[k]?.getD 0<=100
theorem Tiny.zeros (n:Nat):Tiny (List.replicate n 0):=fun k=>by
 by_cases h:k<n
 ·simp [h]
 ·rw [List.getElem?_eq_none (by simp;omega)];simp
theorem Tiny.set {V:List Int} (h:Tiny V) (k:Nat) {x:Int} (h0:-100<=x) (h1:x<=100):Tiny (V.set k x):=fun j=>by
 by_cases e:j=k
 ·subst e;by_cases hj:j<V.length
  ·rw [List.getElem?_set_self hj];exact ⟨h0,h1⟩
  ·rw [List.getElem?_eq_none (by simp;omega)];simp
 ·rw [List.getElem?_set_ne (Ne.symm e)];exact h j
theorem cH {w w':World} {cb b:Nat} (hg:w.grownBy w' (some cb)) (hb:b<w.heap.size) (hne:b ≠ cb):w'.heap[b]?=w.heap[b]?:=hg.block b hb fun e=>hne (Option.some.inj e)
structure Dealt (w w':World) (cb most n vb:Nat) (V:List Int):Prop where
 lo:1<=n
 hi:n<=most
 len:V.length=cN n
 tiny:Tiny V
 zero:V[0]?.getD 0=0
 row:Row w' vb 3 V
 new:w.heap.size<=vb
 ne:vb ≠ cb
theorem Cur.put {w:World} {cb vb:Nat} {t:TypeId} {V:List Int} (h:Cur w cb) (hr:Row w vb t V) (hne:vb ≠ cb) (k:Nat) (v:Value):Cur (w.setCell ⟨vb,k,none⟩ v) cb:=by
 obtain ⟨ba,bn,bc,i,x,h1,h2,h3,h4,h5⟩:=h;refine ⟨ba,bn,bc,i,x,(heap_setCell_other _ _ _ _ (Ne.symm hne)).trans h1,⟨h2.hcap,h2.hmax,fun j hj=>?_⟩,h3,h4,h5⟩;obtain ⟨b,off,e,hc⟩:=h2.cell j hj;refine ⟨b,off,e,fun j hj=>?_⟩;obtain ⟨y,hy,hy1⟩:=hc j hj;refine ⟨y,(dO (heap_setCell_other _ _ _ _ ?_) _).trans hy,hy1⟩;intro e2;subst e2;rw [cell_of_row w b _ _ _ _ hr] at hy;simp [aW,List.getElem?_map] at hy
structure DS (w wr:World) (cb vb gb rb n:Nat) (V:List Int):Prop where
 row:Row wr vb 3 V
 cur:Cur wr cb
 gbk:wr.heap[gb]?=some (.cells #[.int .i64 (n:Int),.slice (some ⟨vb,0,none⟩) (cN n) (cN n)] 29 (0,0))
 rbk:wr.heap[rb]?=some (.cells #[.int .i64 0,.slice none 0 0] 29 (0,0))
 grown:w.grownBy wr (some cb)
 apart:vb ≠ cb/\gb ≠ cb/\rb ≠ cb/\gb ≠ vb/\rb ≠ vb/\rb ≠ gb/\w.heap.size<=vb/\w.heap.size<=gb/\w.heap.size<=rb
theorem DS.call {w wr w':World} {cb vb gb rb n:Nat} {V:List Int} (h:DS w wr cb vb gb rb n V) (hc:Cur w' cb) (hg:wr.grownBy w' (some cb)):DS w w' cb vb gb rb n V :=
 ⟨(cH hg h.row.lt h.apart.1).trans h.row,hc,(cH hg (lt_of_block h.gbk) h.apart.2.1).trans h.gbk,(cH hg (lt_of_block h.rbk) h.apart.2.2.1).trans h.rbk,du h.grown hg,h.apart⟩
theorem DS.ext {w wr w':World} {cb vb gb rb n:Nat} {V:List Int} (h:DS w wr cb vb gb rb n V) (hx:Ext wr w'):DS w w' cb vb gb rb n V :=
 h.call (h.cur.ext hx) (cL _ hx)
theorem DS.put {w wr:World} {cb vb gb rb n:Nat} {V:List Int} (h:DS w wr cb vb gb rb n V) (k:Nat) (x:Int):DS w (wr.setCell ⟨vb,k,none⟩ (.int .i64 x)) cb vb gb rb n (V.set k x):=by
 obtain ⟨h1,h2,h3,h4,h5,h6,h7,h8,h9⟩:=h.apart;have ho:∀ j,j ≠ vb->(wr.setCell ⟨vb,k,none⟩ (.int .i64 x)).heap[j]?=wr.heap[j]?:=fun j hj=>heap_setCell_other _ _ _ _ hj
 refine ⟨h.row.set k x,h.cur.put h.row h1 k _,(ho _ h4).trans h.gbk,(ho _ h5).trans h.rbk,?_,h.apart⟩;have hg:=h.grown;exact ⟨hg.os,hg.tape,hg.output,by simpa using hg.size,fun j hj hne=>(ho j (by omega)).trans (hg.block j hj hne)⟩
theorem DS.c0 {w wr:World} {cb vb gb rb n:Nat} {V:List Int} (h:DS w wr cb vb gb rb n V):wr.cell? ⟨gb,0,none⟩=some (.int .i64 (n:Int)):=by rw [cell_of_row wr gb 0 _ _ _ h.gbk];rfl
theorem DS.c1 {w wr:World} {cb vb gb rb n:Nat} {V:List Int} (h:DS w wr cb vb gb rb n V):wr.cell? ⟨gb,1,none⟩=some (.slice (some ⟨vb,0,none⟩) (cN n) (cN n)):=by rw [cell_of_row wr gb 1 _ _ _ h.gbk];rfl
theorem Cur.put' {w:World} {cb b:Nat} (h:Cur w cb) (hne:b ≠ cb) (hno:∀ j x,w.cell? ⟨b,j,none⟩ ≠ some (.int .u8 x)) (k:Nat) (v:Value):Cur (w.setCell ⟨b,k,none⟩ v) cb:=by
 obtain ⟨ba,bn,bc,i,x,h1,h2,h3,h4,h5⟩:=h;refine ⟨ba,bn,bc,i,x,(heap_setCell_other _ _ _ _ (Ne.symm hne)).trans h1,⟨h2.hcap,h2.hmax,fun j hj=>?_⟩,h3,h4,h5⟩;obtain ⟨b',off,e,hc⟩:=h2.cell j hj;refine ⟨b',off,e,fun j hj=>?_⟩;obtain ⟨y,hy,hy1⟩:=hc j hj;refine ⟨y,(dO (heap_setCell_other _ _ _ _ ?_) _).trans hy,hy1⟩;intro e2;subst e2;exact hno _ _ hy
theorem hI {w W:World} {cb b:Nat} {x:Int} {s:Value} {t:TypeId} (hc:Cur W cb) (hb:W.heap[b]?=some (.cells #[.int .i64 x,s] t (0,0))) (hs:∀ y,s ≠ .int .u8 y) (hne:b ≠ cb) (hg:w.grownBy W (some cb)) (hw:w.heap.size<=b) (x':Int) (s':Value) (hs':∀ y,s' ≠ .int .u8 y) :
 Cur ((W.setCell ⟨b,0,none⟩ (.int .i64 x')).setCell ⟨b,1,none⟩ s') cb/\w.grownBy ((W.setCell ⟨b,0,none⟩ (.int .i64 x')).setCell ⟨b,1,none⟩ s') (some cb)/\(∀ j,j ≠ b->((W.setCell ⟨b,0,none⟩ (.int .i64 x')).setCell ⟨b,1,none⟩ s').heap[j]?=W.heap[j]?)/\((W.setCell ⟨b,0,none⟩ (.int .i64 x')).setCell ⟨b,1,none⟩ s').heap[b]?=some (.cells #[.int .i64 x',s'] t (0,0)):=by
 have ho:∀ j,j ≠ b->((W.setCell ⟨b,0,none⟩ (.int .i64 x')).setCell ⟨b,1,none⟩ s').heap[j]?=W.heap[j]?:=fun j hj=>by
  rw [heap_setCell_other _ _ _ _ hj,heap_setCell_other _ _ _ _ hj]
 have no:∀ {W:World} {x:Int} {s:Value},W.heap[b]?=some (.cells #[.int .i64 x,s] t (0,0))->(∀ y,s ≠ .int .u8 y)->∀ j y,W.cell? ⟨b,j,none⟩ ≠ some (.int .u8 y):=fun {W x s} hb hs j y e=>by
  rw [cell_of_row W b j _ _ _ hb] at e
  match j with
  | 0=>simp at e
  | 1=>exact hs y (by simpa using e)
  | j+2=>simp at e
 have h1:=heap_setCell_same W b 0 _ t (.int .i64 x') hb;have h1':(W.setCell ⟨b,0,none⟩ (.int .i64 x')).heap[b]?=some (.cells #[.int .i64 x',s] t (0,0)):=h1;have h2:=heap_setCell_same _ b 1 _ t s' h1';refine ⟨(hc.put' hne (no hb hs) 0 _).put' hne (no h1' hs) 1 _,⟨hg.os,hg.tape,hg.output,by simpa using hg.size,fun j hj hn=>(ho j (by omega)).trans (hg.block j hj hn)⟩,ho,h2⟩
theorem Ints.lit (w:World) (l:List Int) (t:TypeId) (hl:l.length<=9223372036854775807):Ints (w.alloc (.cells (aW l) t)) (some ⟨w.heap.size,0,none⟩) l.length l.length l :=
 Row.ints (heap_alloc_new w _) rfl (Nat.le_refl _) hl
theorem pick8:∀ k,k<8->-100<=([0,1,2,3,5,8,-2,4]:List Int)[k]?.getD 0/\([0,1,2,3,5,8,-2,4]:List Int)[k]?.getD 0<=100:=by
 intro k hk;have:∀ k:Fin 8,-100<=([0,1,2,3,5,8,-2,4]:List Int)[k.val]?.getD 0/\([0,1,2,3,5,8,-2,4]:List Int)[k.val]?.getD 0<=100:=by decide
 exact this ⟨k,hk⟩
theorem s_maxE (x y:Int) (w:World):Calls Tryz.prog 122 #[.int .i64 x,.int .i64 y] w fun e w'=>e=.returned (.int .i64 (max x y))/\w=w':=by
 by_cases h:y<x
 all_goals
  have H:=ae h;go_enter Tryz.func122,Tryz.ntmps122
  go_wp2_with fail;go_ret;exact ⟨aM (by have:=H.out;omega),rfl⟩
theorem dr (b:Bool) (y:Int) (h0:0<=y) (h1:y<=1):-100<=bitI b*(3+y*3)/\bitI b*(3+y*3)<=100:=by
 unfold bitI;cases b
 ·simp
 ·simp;omega
set_option maxHeartbeats 16000000 in
theorem s_l8Draw {w:World} {cb:Nat} (h:Cur w cb) (most:Nat) (h1:1<=most) (h5:most<=5) :
 Calls Tryz.prog 191 #[.pointer (some ⟨cb,0,none⟩),.int .i64 (most:Int)] w fun e w'=>(∃ (n vb:Nat) (V:List Int),e=.returned (.agg #[.int .i64 (n:Int),.slice (some ⟨vb,0,none⟩) (cN n) (cN n)])/\Dealt w w' cb most n vb V)/\Cur w' cb/\w.grownBy w' (some cb):=by
 have hcl:=h.lt;have HX:=ae (Ext.alloc w (.cells #[.int .i64 0,.slice none 0 0] 29));have HC:=ae (h.ext HX.out);have HB:=ae (ch HC.out (most:Int) (by omega));have hrb:(w.alloc (.cells #[.int .i64 0,.slice none 0 0] 29)).heap[w.heap.size]?=some (.cells #[.int .i64 0,.slice none 0 0] 29 (0,0)):=heap_alloc_new _ _;have HRB:=ae hrb;clear h hrb;go_enter Tryz.func191,Tryz.ntmps191
 go_wp2_with fail;refine HB.out.mono ?_;rintro e w1 ⟨⟨x,rfl,hx0,hx1⟩,hc,hg⟩;have HC1:=ae hc;have HG1:=ae hg;have HRB1:=ae ((cH hg (by simp) (by omega)).trans HRB.out);have hs1:=hg.size;rw [World.size_alloc] at hs1;obtain ⟨n,hn⟩:∃ n:Nat,1+x=(n:Int):=⟨(1+x).toNat,by omega⟩;have hn1:1<=n:=by omega
 have hnm:n<=most:=by omega
 have hn5:n<=5:=by omega
 have hcn:=eX n hn5;have hmk:=gN (cN n) (by omega);clear hc hg hx0 hx1;go_wp2_with fail;refine (s_CountC n hn5 _).mono ?_;rintro e w2 ⟨rfl,rfl⟩;go_wp2_with fail;obtain ⟨vb,hvb⟩:∃ v,v=w1.heap.size:=⟨_,rfl⟩;obtain ⟨w2,hw2⟩:∃ W,W=(w1.alloc (.cells (aW (List.replicate (cN n) 0)) 3)).alloc (.cells #[.int .i64 (n:Int),.slice (some ⟨w1.heap.size,0,none⟩) (cN n) (cN n)] 29):=⟨_,rfl⟩;rw [<-hw2,<-hvb]
 have HD2:=ae (show DS w w2 cb vb (vb+1) w.heap.size n (List.replicate (cN n) 0) by
  have hx:Ext w1 w2:=by rw [hw2];exact (Ext.alloc _ _).trans (Ext.alloc _ _)
  have hg1:w.grownBy w1 (some cb):=du (cL (some cb) HX.out) HG1.out;refine ⟨?_,HC1.out.ext hx,?_,(hx.block _ (lt_of_block HRB1.out)).trans HRB1.out,du hg1 (cL (some cb) hx),by omega⟩
  ·unfold Row;rw [hw2,bz _ _ _ (by simp;omega)];exact aj _ _ _ hvb
  ·rw [hw2,hvb];exact aj _ _ _ (by simp))
 clear hw2;refine (ch HD2.out.cur 4 (by omega)).mono ?_;rintro e w3 ⟨⟨z,rfl,hz0,hz1⟩,hc,hg⟩;have HD3:=ae (HD2.out.call hc hg);have c1:=HD3.out.c1;clear hc hg hmk hn hvb;go_wp2_with fail
 go_loopg [8] (cN n-1) (fun gk ss wr=>∃ (s:Nat) (V:List Int),Hid (gk+s=cN n)/\ss=.int .i64 (s:Int)/\Hid (1<=s)/\Hid (V.length=cN n)/\Hid (Tiny V)/\Hid (V[0]?.getD 0=0)/\Hid (DS w wr cb vb (vb+1) w.heap.size n V))
 case atStart=>exact ⟨1,_,ae (by omega),rfl,ae (by omega),ae (by simp),ae (Tiny.zeros _),ae (by cases cN n <;> simp),HD3⟩
 case round =>
  obtain ⟨g1,h_g1⟩:∃ x,x=gk:=⟨_,rfl⟩;subst h_g1;obtain ⟨wr1,h_wr1⟩:∃ x,x=wr:=⟨_,rfl⟩;subst h_wr1;obtain ⟨s,V,HS,rfl,HS1,HVL,HTV,HV0,HD⟩:=hrel;clear c1;have c1:=HD.out.c1;by_cases hlt:s<cN n
  ·obtain ⟨zz,hzz⟩:∃ q:Int,q=(popT s 5:Int):=⟨_,rfl⟩;have hz5:0<=zz/\zz<=5:=by have:=nX s 5;omega
   have hsq:0<=zz*zz/\zz*zz<=25:=by
    have h1:zz*zz<=5*5:=Int.mul_le_mul (by omega) (by omega) (by omega) (by omega);have h2:0<=zz*zz:=Int.mul_nonneg (by omega) (by omega);omega
   obtain ⟨hsq0,hsq1⟩:=hsq;obtain ⟨hz50,hz51⟩:=hz5;have HZ:=ae hzz;have hss:s<4294967296:=by omega
   have hwz:IntKind.i64.wrap (zz*zz)=zz*zz:=by rw [IntKind.wrap_i64];omega
   clear hzz;have hcase:z=0 ∨ z=1 ∨ z=2 ∨ z=3:=by omega
   rcases hcase with rfl|rfl|rfl|rfl
   ·go_wp2_with fail;have hds:DS w wr1.drew cb vb (vb+1) w.heap.size n V:=HD.out.ext (Ext.drew wr1)
    go_region_held3 (fun w'=>w'.cell? ⟨vb+1,1,none⟩=some (.slice (some ⟨vb,0,none⟩) (cN n) (cN n)))
     (first|with_reducible exact hds.c1|with_reducible exact (hds.put _ _).c1)
     (first
       | (go_at_call 245;refine (jq s hss _).mono ?_;rw [<-HZ.out];rintro e w' ⟨rfl,rfl⟩)
       | (go_at_call 92
          refine (ch hds.cur 2 (by omega)).mono ?_;rintro e w5 ⟨⟨y,rfl,hy0,hy1⟩,hc,hg⟩;have hds:=hds.call hc hg;have hcv:=hds.row.cell (k:=s) (by rw [HVL.out];exact hlt);have hfv:=hds.row.free s
          clear hc hg)
       | fail)
    all_goals
     go_wp2_with fail
     go_roundg (g1-1)
     case measure=>have:=HS.out;omega
     case rel =>
      refine ⟨s+1,_,ae (by have:=HS.out;omega),by go_num,ae (by omega),ae ?_,ae ?_,ae ?_,ae (hds.put s _)⟩
      ·rw [List.length_set];exact HVL.out
      ·refine HTV.out.set s ?_ ?_ <;> (first|omega|(rw [IntKind.wrap_i64];omega)|(have hb1:=dr (decide ((n:Int)<zz*2)) y hy0 hy1;unfold wrap64;omega))
      ·rw [List.getElem?_set_ne (by have:=HS1.out;omega)];exact HV0.out
   ·go_wp2_with fail;have hds0:DS w wr1.drew cb vb (vb+1) w.heap.size n V:=HD.out.ext (Ext.drew wr1);have hdsA:DS w (wr1.alloc (.cells #[.int .i64 0,.int .i64 1,.int .i64 2,.int .i64 3,.int .i64 5,.int .i64 8,.int .i64 (-2),.int .i64 4] 3)).drew cb vb (vb+1) w.heap.size n V:=(HD.out.ext (Ext.alloc _ _)).ext (Ext.drew _);have hli:Ints (wr1.alloc (.cells #[.int .i64 0,.int .i64 1,.int .i64 2,.int .i64 3,.int .i64 5,.int .i64 8,.int .i64 (-2),.int .i64 4] 3)).drew (some ⟨wr1.heap.size,0,none⟩) 8 8 [0,1,2,3,5,8,-2,4]:=(Ints.lit wr1 [0,1,2,3,5,8,-2,4] 3 (by decide)).ext (Ext.drew _);have hcl2:=HD.out.cur.lt
    go_region_held3 (fun w'=>w'.cell? ⟨vb+1,1,none⟩=some (.slice (some ⟨vb,0,none⟩) (cN n) (cN n)))
     (first|with_reducible exact hds0.c1|with_reducible exact hdsA.c1|with_reducible exact hds.c1|with_reducible exact (hds.put _ _).c1)
     (first
       | (go_at_call 106
          refine (dV hdsA.cur hli (by omega) (fun b off e=>by simp only [Option.some.injEq,Addr.mk.injEq,and_true] at e;omega)).mono ?_;rintro e w5 ⟨⟨k,hk,rfl⟩,hc,hg⟩;have hpk:=pick8 k hk;obtain ⟨y,hy⟩:∃ y,y=([0,1,2,3,5,8,-2,4]:List Int)[k]?.getD 0:=⟨_,rfl⟩;rw [<-hy] at hpk;rw [<-hy];obtain ⟨hy0,hy1⟩:=hpk;clear hy;have hds:=hdsA.call hc hg;have hcv:=hds.row.cell (k:=s) (by rw [HVL.out];exact hlt);have hfv:=hds.row.free s
          clear hc hg)
       | fail)
    all_goals
     go_wp2_with fail
     go_roundg (g1-1)
     case measure=>have:=HS.out;omega
     case rel =>
      refine ⟨s+1,_,ae (by have:=HS.out;omega),by go_num,ae (by omega),ae ?_,ae ?_,ae ?_,ae (hds.put s _)⟩
      ·rw [List.length_set];exact HVL.out
      ·exact HTV.out.set s hy0 hy1
      ·rw [List.getElem?_set_ne (by have:=HS1.out;omega)];exact HV0.out
   ·have hw3:IntKind.i64.wrap (3*zz)=3*zz:=by rw [IntKind.wrap_i64];omega
    have hw32:IntKind.i64.wrap (3*zz-2)=3*zz-2:=by rw [IntKind.wrap_i64];omega
    go_wp2_with fail;have hds:DS w wr1.drew cb vb (vb+1) w.heap.size n V:=HD.out.ext (Ext.drew wr1)
    go_region_held3 (fun w'=>w'.cell? ⟨vb+1,1,none⟩=some (.slice (some ⟨vb,0,none⟩) (cN n) (cN n)))
     (first|with_reducible exact hds.c1|with_reducible exact (hds.put _ _).c1)
     (first
       | (go_at_call 245;refine (jq s hss _).mono ?_;rw [<-HZ.out];rintro e w' ⟨rfl,rfl⟩)
       | (go_at_call 122;refine (s_maxE _ _ _).mono ?_;rintro e w' ⟨rfl,rfl⟩)
       | (go_at_call 92
          refine (ch hds.cur 2 (by omega)).mono ?_;rintro e w5 ⟨⟨y,rfl,hy0,hy1⟩,hc,hg⟩;have hds:=hds.call hc hg;have hcv:=hds.row.cell (k:=s) (by rw [HVL.out];exact hlt);have hfv:=hds.row.free s;have hwy:IntKind.i64.wrap (3*zz-2-y)=3*zz-2-y:=by rw [IntKind.wrap_i64];omega
          clear hc hg)
       | fail)
    all_goals
     go_wp2_with fail
     go_roundg (g1-1)
     case measure=>have:=HS.out;omega
     case rel =>
      refine ⟨s+1,_,ae (by have:=HS.out;omega),by go_num,ae (by omega),ae ?_,ae ?_,ae ?_,ae (hds.put s _)⟩
      ·rw [List.length_set];exact HVL.out
      ·refine HTV.out.set s ?_ ?_ <;> (first|omega|(rw [IntKind.wrap_i64];omega)|exact (dr _ _ hy0 hy1).1|exact (dr _ _ hy0 hy1).2|(have hb1:=dr (decide ((n:Int)<zz*2)) y hy0 hy1;rw [IntKind.wrap_i64];omega)|(have hb1:=dr (decide ((n:Int)<zz*2)) y hy0 hy1;unfold wrap64;omega))
      ·rw [List.getElem?_set_ne (by have:=HS1.out;omega)];exact HV0.out
   ·have hw3:IntKind.i64.wrap (zz*2)=zz*2:=by rw [IntKind.wrap_i64];omega
    go_wp2_with fail;have hds:DS w wr1.drew cb vb (vb+1) w.heap.size n V:=HD.out.ext (Ext.drew wr1)
    go_region_held3 (fun w'=>w'.cell? ⟨vb+1,1,none⟩=some (.slice (some ⟨vb,0,none⟩) (cN n) (cN n)))
     (first|with_reducible exact hds.c1|with_reducible exact (hds.put _ _).c1)
     (first
       | (go_at_call 245;refine (jq s hss _).mono ?_;rw [<-HZ.out];rintro e w' ⟨rfl,rfl⟩)
       | (go_at_call 74;refine (eE _ _).mono ?_;rintro e w' ⟨rfl,rfl⟩)
       | (go_at_call 92
          refine (ch hds.cur 2 (by omega)).mono ?_;rintro e w5 ⟨⟨y,rfl,hy0,hy1⟩,hc,hg⟩;have hds:=hds.call hc hg;have hcv:=hds.row.cell (k:=s) (by rw [HVL.out];exact hlt);have hfv:=hds.row.free s;have hwy:IntKind.i64.wrap (y*3)=y*3:=by rw [IntKind.wrap_i64];omega
          have hwy3:IntKind.i64.wrap (3+y*3)=3+y*3:=by rw [IntKind.wrap_i64];omega
          clear hc hg)
       | fail)
    all_goals
     go_wp2_with fail
     go_roundg (g1-1)
     case measure=>have:=HS.out;omega
     case rel =>
      refine ⟨s+1,_,ae (by have:=HS.out;omega),by go_num,ae (by omega),ae ?_,ae ?_,ae ?_,ae (hds.put s _)⟩
      ·rw [List.length_set];exact HVL.out
      ·refine HTV.out.set s ?_ ?_ <;> (first|omega|(rw [IntKind.wrap_i64];omega)|exact (dr _ _ hy0 hy1).1|exact (dr _ _ hy0 hy1).2|(have hb1:=dr (decide ((n:Int)<zz*2)) y hy0 hy1;rw [IntKind.wrap_i64];omega)|(have hb1:=dr (decide ((n:Int)<zz*2)) y hy0 hy1;unfold wrap64;omega))
      ·rw [List.getElem?_set_ne (by have:=HS1.out;omega)];exact HV0.out
  ·have hsn:s=cN n:=by have:=HS.out;omega
   subst hsn;have c0:=HD.out.c0;have hrbk:=HD.out.rbk;have r0:wr1.cell? ⟨w.heap.size,0,none⟩=some (.int .i64 0):=by rw [cell_of_row wr1 w.heap.size 0 _ _ _ hrbk];rfl
   have r1:wr1.cell? ⟨w.heap.size,1,none⟩=some (.slice none 0 0):=by rw [cell_of_row wr1 w.heap.size 1 _ _ _ hrbk];rfl
   have rf:∀ o,wr1.frozen? ⟨w.heap.size,o,none⟩=false:=fun o=>frozen_of_row wr1 w.heap.size o _ _ hrbk
   have rf0:=rf 0;have rf1:=rf 1;have HFIN:=ae (hI (w:=w) HD.out.cur hrbk (by intro y;simp) HD.out.apart.2.2.1 HD.out.grown (Nat.le_refl _) (n:Int) (.slice (some ⟨vb,0,none⟩) (cN n) (cN n)) (by intro y;simp));have HZ0:=ae (show ((wr1.setCell ⟨w.heap.size,0,none⟩ (.int .i64 (n:Int))).setCell ⟨w.heap.size,1,none⟩ (.slice (some ⟨vb,0,none⟩) (cN n) (cN n))).cell? ⟨w.heap.size,0,none⟩=some (.int .i64 (n:Int)) by rw [cell_of_row _ _ 0 _ _ _ HFIN.out.2.2.2];rfl);have HZ1:=ae (show ((wr1.setCell ⟨w.heap.size,0,none⟩ (.int .i64 (n:Int))).setCell ⟨w.heap.size,1,none⟩ (.slice (some ⟨vb,0,none⟩) (cN n) (cN n))).cell? ⟨w.heap.size,1,none⟩=some (.slice (some ⟨vb,0,none⟩) (cN n) (cN n)) by rw [cell_of_row _ _ 1 _ _ _ HFIN.out.2.2.2];rfl);clear hrbk rf;go_wp2_with fail;refine bodyPost_ret (v:=.agg #[.int .i64 (n:Int),.slice (some ⟨vb,0,none⟩) (cN n) (cN n)]) (by simp [results,Tryz.results191,go_sem,HZ0.out,HZ1.out]) rfl ⟨⟨n,vb,V,rfl,hn1,hnm,HVL.out,HTV.out,HV0.out,?_,HD.out.apart.2.2.2.2.2.2.1,HD.out.apart.1⟩,HFIN.out.1,HFIN.out.2.1⟩;exact (HFIN.out.2.2.1 vb (by have:=HD.out.apart;omega)).trans HD.out.row
def Bent (w:World) (cb:Nat) (e:Ending) (w':World):Prop :=
 (∃ (x:Int) (a:Option Addr) (m cap:Nat) (V:List Int),e=.returned (.agg #[.int .i64 x,.slice a m cap])/\OwnI w' w.heap.size (.slice a m cap) V/\m<=17)/\Cur w' cb/\w.grownBy w' (some cb)
structure BS (w wr:World) (cb gb rb:Nat) (x:Int) (a:Option Addr) (m cap:Nat) (V:List Int):Prop where
 cur:Cur wr cb
 gbk:wr.heap[gb]?=some (.cells #[.int .i64 x,.slice a m cap] 29 (0,0))
 rbk:wr.heap[rb]?=some (.cells #[.int .i64 0,.slice none 0 0] 29 (0,0))
 grown:w.grownBy wr (some cb)
 own:OwnI wr w.heap.size (.slice a m cap) V
 apart:gb ≠ cb/\rb ≠ cb/\rb ≠ gb/\w.heap.size<=gb/\w.heap.size<=rb
 free:∀ k,(Value.slice a m cap).ownBlock=some k->k ≠ gb/\k ≠ rb
theorem DS.bs {w wr:World} {cb vb gb rb n:Nat} {V:List Int} (h:DS w wr cb vb gb rb n V) (hV:V.length=cN n) (hn:cN n<=32):BS w wr cb gb rb (n:Int) (some ⟨vb,0,none⟩) (cN n) (cN n) V:=by
 obtain ⟨h1,h2,h3,h4,h5,h6,h7,h8,h9⟩:=h.apart
 exact ⟨h.cur,h.gbk,h.rbk,h.grown,Row.own h.row h7 hV (by omega),⟨h2,h3,h6,h8,h9⟩,fun k hk=>by
  simp only [Value.ownBlock,Option.some.injEq] at hk
  omega⟩
theorem BS.c0 {w wr:World} {cb gb rb:Nat} {x:Int} {a:Option Addr} {m cap:Nat} {V:List Int} (h:BS w wr cb gb rb x a m cap V):wr.cell? ⟨gb,0,none⟩=some (.int .i64 x):=by rw [cell_of_row wr gb 0 _ _ _ h.gbk];rfl
theorem BS.c1 {w wr:World} {cb gb rb:Nat} {x:Int} {a:Option Addr} {m cap:Nat} {V:List Int} (h:BS w wr cb gb rb x a m cap V):wr.cell? ⟨gb,1,none⟩=some (.slice a m cap):=by rw [cell_of_row wr gb 1 _ _ _ h.gbk];rfl
theorem BS.r0 {w wr:World} {cb gb rb:Nat} {x:Int} {a:Option Addr} {m cap:Nat} {V:List Int} (h:BS w wr cb gb rb x a m cap V):wr.cell? ⟨rb,0,none⟩=some (.int .i64 0)/\wr.cell? ⟨rb,1,none⟩=some (.slice none 0 0)/\wr.frozen? ⟨rb,0,none⟩=false/\wr.frozen? ⟨rb,1,none⟩=false :=
 ⟨by rw [cell_of_row wr rb 0 _ _ _ h.rbk];rfl,by rw [cell_of_row wr rb 1 _ _ _ h.rbk];rfl,frozen_of_row wr rb 0 _ _ h.rbk,frozen_of_row wr rb 1 _ _ h.rbk⟩
theorem BS.ext {w wr w':World} {cb gb rb:Nat} {x:Int} {a:Option Addr} {m cap:Nat} {V:List Int} (h:BS w wr cb gb rb x a m cap V) (hx:Ext wr w'):BS w w' cb gb rb x a m cap V :=
 ⟨h.cur.ext hx,(hx.block _ (lt_of_block h.gbk)).trans h.gbk,(hx.block _ (lt_of_block h.rbk)).trans h.rbk,du h.grown (cL (some cb) hx),h.own.ext hx,h.apart,h.free⟩
theorem BS.fin {w wr:World} {cb gb rb:Nat} {x:Int} {a:Option Addr} {m cap:Nat} {V:List Int} (h:BS w wr cb gb rb x a m cap V) (hm:m<=17) :
 Bent w cb (.returned (.agg #[.int .i64 x,.slice a m cap])) ((wr.setCell ⟨rb,0,none⟩ (.int .i64 x)).setCell ⟨rb,1,none⟩ (.slice a m cap)) /\
 ((wr.setCell ⟨rb,0,none⟩ (.int .i64 x)).setCell ⟨rb,1,none⟩ (.slice a m cap)).cell? ⟨rb,0,none⟩=some (.int .i64 x) /\
 ((wr.setCell ⟨rb,0,none⟩ (.int .i64 x)).setCell ⟨rb,1,none⟩ (.slice a m cap)).cell? ⟨rb,1,none⟩=some (.slice a m cap):=by
 obtain ⟨h1,h2,h3,h4⟩:=hI (w:=w) h.cur h.rbk (by intro y;simp) h.apart.2.1 h.grown h.apart.2.2.2.2 x (.slice a m cap) (by intro y;simp);exact ⟨⟨⟨x,a,m,cap,V,rfl,h.own.keep fun k hk=>h3 k (h.free k hk).2,hm⟩,h1,h2⟩,by rw [cell_of_row _ rb 0 _ _ _ h4];rfl,by rw [cell_of_row _ rb 1 _ _ _ h4];rfl⟩
theorem BS.setx {w wr:World} {cb gb rb:Nat} {x:Int} {a:Option Addr} {m cap:Nat} {V:List Int} (h:BS w wr cb gb rb x a m cap V) (y:Int):BS w (wr.setCell ⟨gb,0,none⟩ (.int .i64 y)) cb gb rb y a m cap V:=by
 obtain ⟨h1,h2,h3,h4,h5⟩:=h.apart;have ho:∀ j,j ≠ gb->(wr.setCell ⟨gb,0,none⟩ (.int .i64 y)).heap[j]?=wr.heap[j]?:=fun j hj=>heap_setCell_other _ _ _ _ hj
 have hg:=h.grown;refine ⟨h.cur.put' h1 (fun j z e=>?_) 0 _,?_,(ho _ h3).trans h.rbk,⟨hg.os,hg.tape,hg.output,by simpa using hg.size,fun j hj hn=>(ho j (by omega)).trans (hg.block j hj hn)⟩,h.own.keep fun k hk=>ho k (h.free k hk).1,h.apart,h.free⟩
 ·rw [cell_of_row wr gb j _ _ _ h.gbk] at e
  match j with
  | 0=>simp at e
  | 1=>simp at e
  | j+2=>simp at e
 ·have:=heap_setCell_same wr gb 0 _ _ (.int .i64 y) h.gbk;exact this
theorem BS.sets {w wr:World} {cb gb rb:Nat} {x:Int} {a:Option Addr} {m cap:Nat} {V:List Int} (h:BS w wr cb gb rb x a m cap V) {w':World} (hg:wr.grownBy w' (Value.slice a m cap).ownBlock) (hc:Cur w' cb) {a':Option Addr} {m' cap':Nat} {V':List Int} (ho':OwnI w' w.heap.size (.slice a' m' cap') V') (hn:Near wr (.slice a m cap) (.slice a' m' cap')) :
 BS w (w'.setCell ⟨gb,1,none⟩ (.slice a' m' cap')) cb gb rb x a' m' cap' V':=by
 obtain ⟨h1,h2,h3,h4,h5⟩:=h.apart;have hgl:=lt_of_block h.gbk;have hrl:=lt_of_block h.rbk;have hgb:w'.heap[gb]?=some (.cells #[.int .i64 x,.slice a m cap] 29 (0,0)):=(hg.block _ hgl (fun e=>(h.free gb e.symm).1 rfl)).trans h.gbk;have hrb:w'.heap[rb]?=some (.cells #[.int .i64 0,.slice none 0 0] 29 (0,0)):=(hg.block _ hrl (fun e=>(h.free rb e.symm).2 rfl)).trans h.rbk;have ho:∀ j,j ≠ gb->(w'.setCell ⟨gb,1,none⟩ (.slice a' m' cap')).heap[j]?=w'.heap[j]?:=fun j hj=>heap_setCell_other _ _ _ _ hj
 have hfr:∀ k,(Value.slice a' m' cap').ownBlock=some k->k ≠ gb/\k ≠ rb:=fun k hk=>by
  rcases hn k hk with e|e
  ·exact h.free k e
  ·omega
 have hw:w.grownBy w' (some cb):=by
  have hgr:=h.grown;refine ⟨hg.os.trans hgr.os,hg.tape.trans hgr.tape,hg.output.trans hgr.output,Nat.le_trans hgr.size hg.size,fun j hj hne=>?_⟩;exact (hg.block j (by have:=hgr.size;omega) (fun e=>by have:=(h.own.lt j e.symm).1;omega)).trans (hgr.block j hj hne)
 refine ⟨hc.put' h1 (fun j z e=>?_) 1 _,?_,(ho _ h3).trans hrb,⟨hw.os,hw.tape,hw.output,by simpa using hw.size,fun j hj hn=>(ho j (by omega)).trans (hw.block j hj hn)⟩,ho'.keep fun k hk=>ho k (hfr k hk).1,h.apart,hfr⟩
 ·rw [cell_of_row w' gb j _ _ _ hgb] at e
  match j with
  | 0=>simp at e
  | 1=>simp at e
  | j+2=>simp at e
 ·have:=heap_setCell_same w' gb 1 _ _ (.slice a' m' cap') hgb;exact this
theorem Cur.grownRow {w w':World} {cb vb:Nat} {t:TypeId} {V:List Int} (h:Cur w cb) (hr:Row w vb t V) (hne:vb ≠ cb) (hg:w.grownBy w' (some vb)):Cur w' cb:=by
 have hl:=h.lt;obtain ⟨ba,bn,bc,i,x,h1,h2,h3,h4,h5⟩:=h;refine ⟨ba,bn,bc,i,x,(hg.block _ hl (fun e=>hne (Option.some.inj e).symm)).trans h1,⟨h2.hcap,h2.hmax,fun j hj=>?_⟩,h3,h4,h5⟩;obtain ⟨b,off,e,hc⟩:=h2.cell j hj;refine ⟨b,off,e,fun j hj=>?_⟩;obtain ⟨y,hy,hy1⟩:=hc j hj;refine ⟨y,(dO (hg.block _ (World.block_lt_of_cell? _ _ hy) ?_) _).trans hy,hy1⟩;intro e2;have e3:=Option.some.inj e2;subst e3;rw [cell_of_row w b _ _ _ _ hr] at hy;simp [aW,List.getElem?_map] at hy
set_option maxHeartbeats 16000000 in
theorem s_l8Bent {w:World} {cb:Nat} (h:Cur w cb) :
 Calls Tryz.prog 129 #[.pointer (some ⟨cb,0,none⟩)] w (Bent w cb):=by
 have hcl:=h.lt;have HX:=ae (Ext.alloc w (.cells #[.int .i64 0,.slice none 0 0] 29));have HC:=ae (h.ext HX.out);have HB:=ae (s_l8Draw HC.out 4 (by omega) (by omega));have hrb:(w.alloc (.cells #[.int .i64 0,.slice none 0 0] 29)).heap[w.heap.size]?=some (.cells #[.int .i64 0,.slice none 0 0] 29 (0,0)):=heap_alloc_new _ _;have HRB:=ae hrb;clear h hrb;go_enter Tryz.func129,Tryz.ntmps129
 go_wp2_with fail;refine HB.out.mono ?_;rintro e w1 ⟨⟨n,vb,V,rfl,hD⟩,hc,hg⟩;have hn1:=hD.lo;have hn4:=hD.hi;have hcn:=eX n (by omega);have hcn4:cN n<=16:=by
  have:∀ k:Fin 5,cN k.val<=16:=by decide
  exact this ⟨n,by omega⟩
 obtain ⟨N,hN⟩:∃ N,N=cN n:=⟨_,rfl⟩
 have HD:=ae (show DS w (w1.alloc (.cells #[.int .i64 (n:Int),.slice (some ⟨vb,0,none⟩) (cN n) (cN n)] 29)) cb vb w1.heap.size w.heap.size n V by
  have hg1:w.grownBy w1 (some cb):=du (cL (some cb) HX.out) hg;have hv:=hD.row.lt;have hvn:=hD.new;rw [World.size_alloc] at hvn;have hne:=hD.ne;have hx:=Ext.alloc w1 (.cells #[.int .i64 (n:Int),.slice (some ⟨vb,0,none⟩) (cN n) (cN n)] 29);have hrb1:=(cH hg (by simp) (by omega)).trans HRB.out
  exact ⟨hD.row.ext hx,hc.ext hx,heap_alloc_new _ _,(hx.block _ (lt_of_block hrb1)).trans hrb1,du hg1 (cL (some cb) hx),by omega⟩)
 have HVL:=ae hD.len;clear hD hc hg;rw [<-hN] at HVL;go_wp2_with fail;refine (ch HD.out.cur 12 (by omega)).mono ?_;rintro e w3 ⟨⟨z,rfl,hz0,hz1⟩,hc,hg⟩;have HD3:=ae (HD.out.call hc hg);generalize w1.heap.size=gb at HD3 ⊢;clear hc hg HD;have HBS:=ae (HD3.out.bs (by rw [HVL.out,hN]) (by omega));have c0:=HBS.out.c0;have c1:=HBS.out.c1;obtain ⟨r0,r1,rf0,rf1⟩:=HBS.out.r0;rw [<-hN] at HBS c1;have HCN:=ae hN;have hN1:1<=N:=by omega
 have hN32:N<=32:=by omega
 have hN16:N<=16:=by omega
 clear hcn4;have HNC:=ae hN.symm;clear hN;have hcase:z=0 ∨ z=1 ∨ z=2 ∨ z=3 ∨ 4<=z:=by omega
 rcases hcase with rfl|rfl|rfl|rfl|hz4
 ·have hcv:=HD3.out.row.cell (k:=0) (by rw [HVL.out];omega);have hfv:=HD3.out.row.free 0;have HBS4:=ae ((HD3.out.put 0 1).bs (by rw [List.length_set,HVL.out,HNC.out]) (by rw [HNC.out];exact hN32));have c0':=HBS4.out.c0;have c1':=HBS4.out.c1;obtain ⟨r0',r1',rf0',rf1'⟩:=HBS4.out.r0;rw [HNC.out] at HBS4 c1';have HF:=ae (HBS4.out.fin (by omega));clear HD3 HNC HCN;go_wp2_with fail;refine bodyPost_ret (v:=.agg #[.int .i64 (n:Int),.slice (some ⟨vb,0,none⟩) N N]) (by simp [results,Tryz.results129,go_sem,HF.out.2.1,HF.out.2.2]) rfl HF.out.1
 ·have hli:Ints (w3.alloc (.cells #[.int .i64 0,.int .i64 6,.int .i64 2,.int .i64 (-1)] 3)) (some ⟨w3.heap.size,0,none⟩) 4 4 [0,6,2,-1]:=Ints.lit w3 [0,6,2,-1] 3 (by decide);have HLI:=ae hli;have hcl3:=HD3.out.cur.lt;have HDA:=ae (HD3.out.ext (Ext.alloc w3 (.cells #[.int .i64 0,.int .i64 6,.int .i64 2,.int .i64 (-1)] 3)));clear hli;go_wp2_with fail;refine (dV HDA.out.cur HLI.out (by omega) (fun b off e=>by simp only [Option.some.injEq,Addr.mk.injEq,and_true] at e;omega)).mono ?_;rintro e w5 ⟨⟨k,hk,rfl⟩,hc,hg⟩;obtain ⟨y,hy⟩:∃ y,y=([0,6,2,-1]:List Int)[k]?.getD 0:=⟨_,rfl⟩;rw [<-hy];have HB5:=ae ((HDA.out.call hc hg).bs (by rw [HVL.out,HNC.out]) (by rw [HNC.out];exact hN32));have d0:=HB5.out.c0;have d1:=HB5.out.c1;have df:w5.frozen? ⟨gb,0,none⟩=false:=frozen_of_row w5 gb 0 _ _ HB5.out.gbk;have HB6:=ae (HB5.out.setx y);have c0':=HB6.out.c0;have c1':=HB6.out.c1;obtain ⟨r0',r1',rf0',rf1'⟩:=HB6.out.r0;rw [HNC.out] at HB6 c1' d1;have HF:=ae (HB6.out.fin (by omega));clear hy hc hg HD3 HNC HCN;go_wp2_with fail;refine bodyPost_ret (v:=.agg #[.int .i64 y,.slice (some ⟨vb,0,none⟩) N N]) (by simp [results,Tryz.results129,go_sem,HF.out.2.1,HF.out.2.2]) rfl HF.out.1
 ·have HR:=ae (HD3.out.row.ext (Ext.alloc w3 (.cells #[.int .i64 1] 3)));have HCR:=ae (HD3.out.cur.ext (Ext.alloc w3 (.cells #[.int .i64 1] 3)));have hvc:=HD3.out.apart.1;have hgs:=HD3.out.grown.size;have hgbl:=lt_of_block HBS.out.gbk
  go_wp2_with (first
   | (at_builtin;refine bw rfl _ _ rfl w.heap.size (.slice (some ⟨vb,0,none⟩) N N) V rfl (HBS.out.own.ext (Ext.alloc _ _)) _ 1 _ [1] rfl (Ints.oneS _ _ _ _ rfl) (by rw [HVL.out];omega) (by simp;omega) ?_
      intro v5 w5 ho hg hnear;obtain ⟨a5,n5,p5,rfl,HN5⟩:=ho.var;have gf:=(hg.block gb (by simp;omega) (fun e=>(HBS.out.free gb e.symm).1 rfl)).trans (((Ext.alloc w3 _).block _ hgbl).trans HBS.out.gbk);have gf1:w5.frozen? ⟨gb,1,none⟩=false:=frozen_of_row w5 gb 1 _ _ gf;have gc1:w5.cell? ⟨gb,1,none⟩=some (.slice (some ⟨vb,0,none⟩) N N):=by rw [cell_of_row w5 gb 1 _ _ _ gf];rfl
      have HB6:=ae ((HBS.out.ext (Ext.alloc _ _)).sets hg (HCR.out.grownRow HR.out hvc hg) ho hnear);have c0':=HB6.out.c0;have c1':=HB6.out.c1;obtain ⟨r0',r1',rf0',rf1'⟩:=HB6.out.r0;have hn5:n5<=17:=by have:=HN5.out;have:=HVL.out;rw [List.length_append,List.length_singleton] at *;omega
      have HF:=ae (HB6.out.fin hn5)
      clear ho hg hnear gf))
  refine bodyPost_ret (v:=.agg #[.int .i64 (n:Int),.slice a5 n5 p5]) (by simp [results,Tryz.results129,go_sem,HF.out.2.1,HF.out.2.2]) rfl HF.out.1
 ·have hds0:DS w w3.drew cb vb gb w.heap.size n V:=HD3.out.ext (Ext.drew w3);have hdsA:DS w (w3.alloc (.cells #[.int .i64 500,.int .i64 501,.int .i64 (-501)] 3)).drew cb vb gb w.heap.size n V:=(HD3.out.ext (Ext.alloc _ _)).ext (Ext.drew _);have hli:Ints (w3.alloc (.cells #[.int .i64 500,.int .i64 501,.int .i64 (-501)] 3)).drew (some ⟨w3.heap.size,0,none⟩) 3 3 [500,501,-501]:=(Ints.lit w3 [500,501,-501] 3 (by decide)).ext (Ext.drew _);have hcl3:=HD3.out.cur.lt;have HC1E:∀ (W:World) (V':List Int),DS w W cb vb gb w.heap.size n V'->W.cell? ⟨gb,1,none⟩=some (.slice (some ⟨vb,0,none⟩) N N):=fun W V' h=>by have:=h.c1;rw [HNC.out] at this;exact this
  obtain ⟨q,hq⟩:∃ q:Nat,(N:Int)-1=(q:Int):=⟨N-1,by omega⟩;have hqN:q<N:=by omega
  have hw1:IntKind.i64.wrap ((N:Int)-1)=(q:Int):=by rw [hq,IntKind.wrap_i64];omega
  have hw2:IntKind.i64.wrap (q:Int)=(q:Int):=by rw [IntKind.wrap_i64];omega
  have HCE:=ae HC1E;clear HC1E;go_wp2_with fail
  go_region_held3 (fun w'=>w'.cell? ⟨gb,1,none⟩=some (.slice (some ⟨vb,0,none⟩) N N))
   (first|with_reducible exact HCE.out _ _ hds0|with_reducible exact HCE.out _ _ hdsA|with_reducible exact HCE.out _ _ hds|with_reducible exact HCE.out _ _ (hds.put _ _))
   (first
     | (go_at_call 106
        refine (dV hdsA.cur hli (by omega) (fun b off e=>by simp only [Option.some.injEq,Addr.mk.injEq,and_true] at e;omega)).mono ?_;rintro e w5 ⟨⟨k,hk,rfl⟩,hc,hg⟩;obtain ⟨y,hy⟩:∃ y,y=([500,501,-501]:List Int)[k]?.getD 0:=⟨_,rfl⟩;rw [<-hy];clear hy;have hds:=hdsA.call hc hg;have hcv:=hds.row.cell (k:=q) (by rw [HVL.out];exact hqN);have hfv:=hds.row.free q;have HDP:=ae (hds.put q y)
        clear hc hg)
     | fail)
  all_goals
   have HB6:=ae (HDP.out.bs (by rw [List.length_set,HVL.out,HNC.out]) (by rw [HNC.out];exact hN32));have c0':=HB6.out.c0;have c1':=HB6.out.c1;obtain ⟨r0',r1',rf0',rf1'⟩:=HB6.out.r0;rw [HNC.out] at HB6 c1';have HF:=ae (HB6.out.fin (by omega));clear HNC HCN;go_wp2_with fail;refine bodyPost_ret (v:=.agg #[.int .i64 (n:Int),.slice (some ⟨vb,0,none⟩) N N]) (by simp [results,Tryz.results129,go_sem,HF.out.2.1,HF.out.2.2]) rfl HF.out.1
 ·have e0:(z == 0)=false:=by simp;omega
  have e1:(z == 1)=false:=by simp;omega
  have e2:(z == 2)=false:=by simp;omega
  have e3:(z == 3)=false:=by simp;omega
  have HF:=ae (HBS.out.fin (by omega));go_wp2_with fail;refine bodyPost_ret (v:=.agg #[.int .i64 (n:Int),.slice (some ⟨vb,0,none⟩) N N]) (by simp [results,Tryz.results129,go_sem,HF.out.2.1,HF.out.2.2]) rfl HF.out.1
abbrev Bx:=Nat->Option (Array Value × TypeId)
def Bx.nil:Bx:=fun _=>none
def Bx.upd (f:Bx) (b:Nat) (p:Array Value × TypeId):Bx:=fun k=>if k=b then some p else f k
theorem Bx.same (f:Bx) (b:Nat) (p:Array Value × TypeId):f.upd b p b=some p:=by unfold Bx.upd;rw [if_pos rfl]
theorem Bx.other (f:Bx) {b k:Nat} (p:Array Value × TypeId) (h:k ≠ b):f.upd b p k=f k:=by unfold Bx.upd;rw [if_neg h]
structure Bxs (w wr:World) (cb:Nat) (f:Bx):Prop where
 cur:Cur wr cb
 grown:w.grownBy wr (some cb)
 box:∀ b p,f b=some p->wr.heap[b]?=some (.cells p.1 p.2 (0,0))/\b ≠ cb/\w.heap.size<=b
 dry:∀ b p,f b=some p->∀ (j:Nat) (y:Int),p.1[j]? ≠ some (Value.int .u8 y)
section
variable {w wr w':World} {cb b:Nat} {f:Bx} {p:Array Value × TypeId}
theorem Bxs.lt (h:Bxs w wr cb f) (hf:f b=some p):b<wr.heap.size:=lt_of_block (h.box b p hf).1
theorem Bxs.call (h:Bxs w wr cb f) (hc:Cur w' cb) (hg:wr.grownBy w' (some cb)):Bxs w w' cb f :=
 ⟨hc,du h.grown hg,fun b p hf=>⟨(cH hg (h.lt hf) (h.box b p hf).2.1).trans (h.box b p hf).1,(h.box b p hf).2⟩,h.dry⟩
theorem Bxs.ext (h:Bxs w wr cb f) (hx:Ext wr w'):Bxs w w' cb f:=h.call (h.cur.ext hx) (cL _ hx)
theorem Bxs.cell (h:Bxs w wr cb f) (hf:f b=some p) (i:Nat):wr.cell? ⟨b,i,none⟩=p.1[i]?:=cell_of_row wr b i _ _ _ (h.box b p hf).1
theorem Bxs.free (h:Bxs w wr cb f) (hf:f b=some p) (i:Nat):wr.frozen? ⟨b,i,none⟩=false:=frozen_of_row wr b i _ _ (h.box b p hf).1
theorem Bxs.start (hc:Cur wr cb) (hg:w.grownBy wr (some cb)):Bxs w wr cb Bx.nil:=⟨hc,hg,fun _ _ h=>(by cases h),fun _ _ h=>(by cases h)⟩
theorem Bxs.add (h:Bxs w wr cb f) (b:Nat) (arr:Array Value) (t:TypeId) (hb:wr.heap[b]?=some (.cells arr t (0,0))) (hne:b ≠ cb) (hw:w.heap.size<=b) (hd:∀ (j:Nat) (y:Int),arr[j]? ≠ some (Value.int .u8 y)):Bxs w wr cb (f.upd b (arr,t)):=by
 refine ⟨h.cur,h.grown,fun k p hf=>?_,fun k p hf=>?_⟩
 all_goals
  by_cases e:k=b
  ·subst e;rw [Bx.same] at hf;cases hf
   first|exact ⟨hb,hne,hw⟩|exact hd
  ·rw [Bx.other _ _ e] at hf
   first|exact h.box k p hf|exact h.dry k p hf
theorem Bxs.new (h:Bxs w wr cb f) (arr:Array Value) (t:TypeId) (hd:∀ (j:Nat) (y:Int),arr[j]? ≠ some (Value.int .u8 y)):Bxs w (wr.alloc (.cells arr t)) cb (f.upd wr.heap.size (arr,t)) :=
 (h.ext (Ext.alloc wr _)).add _ _ _ (heap_alloc_new _ _) (by have:=h.cur.lt;omega) h.grown.size hd
theorem Bxs.put (h:Bxs w wr cb f) (hf:f b=some p) (i:Nat) (v:Value) (hv:∀ y:Int,v ≠ Value.int .u8 y):Bxs w (wr.setCell ⟨b,i,none⟩ v) cb (f.upd b (p.1.setIfInBounds i v,p.2)):=by
 have hb:=h.box b p hf;have ho:∀ j,j ≠ b->(wr.setCell ⟨b,i,none⟩ v).heap[j]?=wr.heap[j]?:=fun j hj=>heap_setCell_other _ _ _ _ hj
 have hg:=h.grown;refine ⟨h.cur.put' hb.2.1 (fun j y e=>?_) i v,⟨hg.os,hg.tape,hg.output,by simpa using hg.size,fun j hj hn=>(ho j (by omega)).trans (hg.block j hj hn)⟩,fun k q hk=>?_,fun k q hk=>?_⟩
 ·rw [h.cell hf] at e;exact h.dry b p hf j y e
 ·by_cases e:k=b
  ·subst e;rw [Bx.same] at hk;cases hk;exact ⟨heap_setCell_same wr k i _ _ v hb.1,hb.2⟩
  ·rw [Bx.other _ _ e] at hk;have:=h.box k q hk;exact ⟨(ho k e).trans this.1,this.2⟩
 ·by_cases e:k=b
  ·subst e;rw [Bx.same] at hk;cases hk;intro j y ej;simp only [Array.getElem?_setIfInBounds] at ej
   split at ej
   ·split at ej
    ·exact hv y (Option.some.inj ej)
    ·cases ej
   ·exact h.dry k p hf j y ej
  ·rw [Bx.other _ _ e] at hk;exact h.dry k q hk
theorem OwnI.calls {base:Nat} {v:Value} {V:List Int} (ho:OwnI wr base v V) (hg:wr.grownBy w' (some cb)) (hb:cb<base):OwnI w' base v V :=
 ho.keep fun k hk=>cH hg (ho.lt k hk).2 (by have:=(ho.lt k hk).1;omega)
theorem Cur.puts {k:Nat} {u:Value} (h:Cur wr cb) (hne:b ≠ cb) (hb:wr.cell? ⟨b,k,none⟩=some u) (hu:∀ y:Int,u ≠ Value.int .u8 y) (v:Value):Cur (wr.setCell ⟨b,k,none⟩ v) cb:=by
 obtain ⟨ba,bn,bc,i,x,h1,h2,h3,h4,h5⟩:=h;refine ⟨ba,bn,bc,i,x,(heap_setCell_other _ _ _ _ (Ne.symm hne)).trans h1,⟨h2.hcap,h2.hmax,fun j hj=>?_⟩,h3,h4,h5⟩;obtain ⟨b',off,e,hc⟩:=h2.cell j hj;refine ⟨b',off,e,fun j hj=>?_⟩;obtain ⟨y,hy,hy1⟩:=hc j hj;refine ⟨y,(World.cell?_setCell_other _ _ _ _ fun e2=>?_).trans hy,hy1⟩;rw [e2,hy] at hb;exact hu y (Option.some.inj hb).symm
theorem Bxs.putr {k:Nat} {u:Value} (h:Bxs w wr cb f) (hne:b ≠ cb) (hw:w.heap.size<=b) (hf:f b=none) (hb:wr.cell? ⟨b,k,none⟩=some u) (hu:∀ y:Int,u ≠ Value.int .u8 y) (v:Value):Bxs w (wr.setCell ⟨b,k,none⟩ v) cb f:=by
 have ho:∀ j,j ≠ b->(wr.setCell ⟨b,k,none⟩ v).heap[j]?=wr.heap[j]?:=fun j hj=>heap_setCell_other _ _ _ _ hj
 have hg:=h.grown;refine ⟨h.cur.puts hne hb hu v,⟨hg.os,hg.tape,hg.output,by simpa using hg.size,fun j hj hn=>(ho j (by omega)).trans (hg.block j hj hn)⟩,fun j q hq=>?_,h.dry⟩;have:=h.box j q hq;exact ⟨(ho j fun e=>by subst e;rw [hf] at hq;cases hq).trans this.1,this.2⟩
theorem Cur.above (h:Cur wr cb) (hk:∀ k,k<=cb->w'.heap[k]?=wr.heap[k]?):Cur w' cb:=by
 obtain ⟨ba,bn,bc,i,x,h1,h2,h3,h4,h5⟩:=h;refine ⟨ba,bn,bc,i,x,(hk cb (Nat.le_refl _)).trans h1,⟨h2.hcap,h2.hmax,fun j hj=>?_⟩,h3,h4,h5⟩;obtain ⟨b',off,e,hc⟩:=h2.cell j hj;refine ⟨b',off,e,fun j hj=>?_⟩;obtain ⟨y,hy,hy1⟩:=hc j hj;exact ⟨y,(dO (hk b' (Nat.le_of_lt (h5 b' off e (by omega)))) _).trans hy,hy1⟩
theorem Bxs.grew {r:Option Nat} (h:Bxs w wr cb f) (hg:wr.grownBy w' r) (hr:∀ k,r=some k->cb<k/\w.heap.size<=k/\f k=none):Bxs w w' cb f:=by
 have hl:=h.cur.lt;refine ⟨h.cur.above fun k hk=>hg.block k (by omega) (fun e=>by have:=(hr k e.symm).1;omega),?_,fun b p hb=>?_,h.dry⟩
 ·have h0:=h.grown;exact ⟨hg.os.trans h0.os,hg.tape.trans h0.tape,hg.output.trans h0.output,Nat.le_trans h0.size hg.size,fun j hj hn=>(hg.block j (by have:=h0.size;omega) (fun e=>by have:=(hr j e.symm).2.1;omega)).trans (h0.block j hj hn)⟩
 ·have:=h.box b p hb;exact ⟨(hg.block b (h.lt hb) (fun e=>by have:=(hr b e.symm).2.2;rw [this] at hb;cases hb)).trans this.1,this.2⟩
theorem Bxs.all (h:Bxs w wr cb f) (hcb:w.heap.size<=cb):Ext w wr:=aq (Ext.refl w) h.grown (fun k hk=>by have:=Option.some.inj hk;omega)
end
theorem bI (a:Option Addr) (n c:Nat):∀ y:Int,Value.slice a n c ≠ Value.int .u8 y:=fun y e=>by cases e
theorem eQ (x:Int):∀ y:Int,Value.int .i64 x ≠ Value.int .u8 y:=fun y e=>by cases e
end Go.Proofs.YthjjfkeacobikaaGreat
namespace Go.Proofs.YthjjfkeacobikaaGreat
open Go.RowKit
def bL (p:Int) (l:List Int):Bool:=l.all (fun x=>inB x (-500) 500)&&(inB p 1 5&&(decide ((l.length:Int)=cntC p)&&decide (l[0]?.getD 0=0)))
theorem dG {p:Int} {l:List Int} (h:bL p l=true):∃ n:Nat,p=n/\1<=n/\n<=5/\l.length=cN n/\l[0]?.getD 0=0/\∀ x ∈ l,-500<=x/\x<=500:=by
 unfold bL at h;simp only [Bool.and_eq_true,decide_eq_true_eq] at h;obtain ⟨ha,hp,hl,h0⟩:=h;have hb:1<=p/\p<=5:=by unfold inB at hp;simpa using hp
 refine ⟨p.toNat,by omega,by omega,by omega,?_,h0,?_⟩
 ·have:p=(p.toNat:Int):=by omega
  rw [this,iX _ (by omega)] at hl;omega
 ·intro x hx;have:=List.all_eq_true.1 ha x hx;unfold inB at this
  simpa using this
set_option maxHeartbeats 1000000 in
theorem fj {w:World} {p:Int} {a:Option Addr} {n cap:Nat} {l:List Int} (h:Ints w a n cap l) :
 Calls Tryz.prog 89 #[pair p a n cap] w fun e w'=>e=.returned (.bool (bL p l))/\Ext w w':=by
 have h1:=h.alloc (.cells #[.int .i64 p,.slice a n cap] 29);have hn:=h.hcap;have hm:=h.hmax;have HL:=ae h.hlen;clear h;go_enter Tryz.func89,Tryz.ntmps89
 go_wp2
 go_loop [3] (fun i=>∃ k:Nat,k<=n/\i=.int .i64 k/\(l.take k).all (fun x=>inB x (-500) 500)=true) (fun i=>n-(intOf i).toNat)
 case atStart=>exact ⟨0,Nat.zero_le _,rfl,rfl⟩
 case round =>
  obtain ⟨k,hk,rfl,hall⟩:=hrel;have HA:=ae hall;clear hall;by_cases hlt:k<n
  ·obtain ⟨b,off,rfl,hc⟩:=h1.at hlt;cases hb:inB (l[k]?.getD 0) (-500) 500
   ·have HB:=ae hb;go_wp2_with (first|(go_at_call 95;refine (bv _ _ _ _).mono ?_;rintro e w' ⟨rfl,rfl⟩));go_ret;refine ⟨ag ?_,Ext.alloc _ _⟩
    symm
    unfold bL;cases hx:l.all (fun x=>inB x (-500) 500)
    ·rfl
    ·have:=nw hx (k:=k) (by have:=HL.out;omega);rw [HB.out] at this;cases this
   ·have HB:=ae hb;go_wp2_with (first|(go_at_call 95;refine (bv _ _ _ _).mono ?_;rintro e w' ⟨rfl,rfl⟩))
    go_round
    case rel=>exact ⟨k+1,by omega,by go_num,by rw [cw (by have:=HL.out;omega),List.all_append,HA.out];simpa using HB.out⟩
    case measure=>simp [intOf];omega
  ·have hkn:k=l.length:=by have:=HL.out;omega
   have hall:=HA.out;rw [hkn,List.take_length] at hall;have HALL:=ae hall;clear hall hkn;cases hp:inB p 1 5
   ·have HP:=ae hp
    go_wp2
    go_quiet ((first|(go_at_call 95;exact bY (bv _ _ _ _))|(go_at_call 73;exact bY (dq _ _))))
    go_wp2
    go_ret;exact ⟨ag (by unfold bL;rw [HALL.out,HP.out];rfl),below_drewN (Ext.alloc _ _) _⟩
   ·have HP:=ae hp;cases hl:((n:Int) == cntC p)
    ·have HE:=ae hl
     go_wp2
     go_quiet ((first|(go_at_call 95;exact bY (bv _ _ _ _))|(go_at_call 73;exact bY (dq _ _))))
     go_wp2
     go_ret;refine ⟨ag ?_,below_drewN (Ext.alloc _ _) _⟩;have:¬ ((l.length:Int)=cntC p):=by rw [HL.out];have:=HE.out;simpa using this
     unfold bL;rw [decide_eq_false this];simp
    ·have HE:=ae hl;have hpos:0<n:=by
      have h1:1<=p/\p<=5:=by unfold inB at hp;simpa using hp
      have h2:(n:Int)=cntC p:=by simpa using hl
      unfold cntC at h2;rw [if_pos (by unfold inB;simp;omega)] at h2;have:=fI p.toNat;omega
     obtain ⟨b,off,rfl,hc⟩:=h1.at hpos;rw [Nat.add_zero] at hc
     go_wp2
     go_quiet ((first|(go_at_call 95;exact bY (bv _ _ _ _))|(go_at_call 73;exact bY (dq _ _))))
     go_wp2
     go_ret;refine ⟨ag ?_,below_drewN (Ext.alloc _ _) _⟩;have he:(l.length:Int)=cntC p:=by rw [HL.out];have:=HE.out;simpa using this
     unfold bL;rw [HALL.out,HP.out,decide_eq_true he];rw [Bool.eq_iff_iff];simp
theorem kr (x:Int) (w:World):Calls Tryz.prog 192 #[.int .i64 x] w fun e w'=>e=.returned (.bool (!inB x (-500) 500))/\w=w':=by
 go_enter Tryz.func192,Tryz.ntmps192
 go_wp2_with (first|(go_at_call 80;refine (aU _ _ _ _).mono ?_;rintro e w' ⟨rfl,rfl⟩));go_ret;exact ⟨rfl,rfl⟩
theorem jI:IsGo Tryz.prog 192:=isGo Tryz.func192 (by kernel_rfl) (by kernel_rfl)
theorem iK (w:World):Asks Tryz.prog w 192 #[] (fun x=>!inB x (-500) 500) :=
 fun x w1 _=>(kr x w1).mono fun e w' ⟨he,hw⟩=>⟨he,hw ▸ Ext.refl _⟩
theorem fq (p:Int) (l:List Int):bL p l=(inB p 1 5&&(decide ((l.length:Int)=cntC p)&&(decide (l[0]?.getD 0=0)&&!l.any (fun x=>!inB x (-500) 500)))):=by
 unfold bL;have:(!l.any (fun x=>!inB x (-500) 500))=l.all (fun x=>inB x (-500) 500):=by rw [List.not_any_eq_all_not];simp
 rw [this];cases l.all (fun x=>inB x (-500) 500) <;> simp
set_option maxHeartbeats 1000000 in
theorem fi {w:World} {p:Int} {a:Option Addr} {n cap:Nat} {l:List Int} (h:Ints w a n cap l) :
 Calls Tryz.prog 130 #[pair p a n cap] w fun e w'=>e=.returned (.bool (bL p l))/\Ext w w':=by
 have h1:=h.alloc (.cells #[.int .i64 p,.slice a n cap] 29);have HX:=ae (Ext.alloc w (.cells #[.int .i64 p,.slice a n cap] 29));have hn:=h.hcap;have hm:=h.hmax;have HL:=ae h.hlen;clear h;cases hp:inB p 1 5
 ·have HP:=ae hp;go_enter Tryz.func130,Tryz.ntmps130
  go_wp2
  go_quiet ((first|(go_at_call 80;exact bY (aU _ _ _ _))))
  go_wp2
  go_ret;exact ⟨ag (by rw [fq,HP.out];rfl),below_drewN (Ext.alloc _ _) _⟩
 ·have HP:=ae hp;obtain ⟨m,rfl⟩:∃ m:Nat,p=m:=⟨p.toNat,by unfold inB at hp;simp at hp;omega⟩;have hm1:1<=m/\m<=5:=by unfold inB at hp;simp at hp;omega
  obtain ⟨hm1,hm5⟩:=hm1;have hwp:IntKind.i64.wrap ((2:Int) ^ m)=(cN m:Int):=by
   have h1:=fI m;have h2:=iE m hm5;rw [IntKind.wrap_i64,jx];omega
  have hwp':wrap64 ((2:Int) ^ m)=(cN m:Int):=(wrap_pow m hm5).trans (jx m).symm;have HC:=ae (iX m hm5);have hN:=eX m hm5;cases hl:((n:Int) != (cN m:Int))
  ·have hnm:n=cN m:=Int.ofNat.inj (show (n:Int)=(cN m:Int) by simpa using hl);have HNM:=ae hnm;have hpos:0<n:=by omega
   obtain ⟨b,off,rfl,hc⟩:=h1.at hpos;rw [Nat.add_zero] at hc;clear hnm;cases h0:(l[0]?.getD 0 != 0)
   ·have HZ:=ae h0;have HI:=ae h1;go_enter Tryz.func130,Tryz.ntmps130
    go_wp2
    go_quiet ((first|(go_at_call 80;exact bY (aU _ _ _ _))))
    go_wp2_with fail;refine (dL (HI.out.drewN _) jI (iK _)).mono ?_;rintro e w1 ⟨rfl,hx⟩
    go_wp2
    go_ret;refine ⟨ag ?_,Ext.trans (below_drewN HX.out _) hx⟩;rw [fq,HP.out,HC.out,HL.out,HNM.out,decide_eq_true rfl];have:l[0]?.getD 0=0:=by simpa using HZ.out
    rw [decide_eq_true this]
    rfl
   ·have HZ:=ae h0;go_enter Tryz.func130,Tryz.ntmps130
    go_wp2
    go_quiet ((first|(go_at_call 80;exact bY (aU _ _ _ _))))
    go_wp2
    go_ret;refine ⟨ag ?_,below_drewN HX.out _⟩;have:¬ (l[0]?.getD 0=0):=by simpa using HZ.out
    rw [fq,decide_eq_false this];simp
  ·have HNE:=ae hl;go_enter Tryz.func130,Tryz.ntmps130
   go_wp2
   go_quiet ((first|(go_at_call 80;exact bY (aU _ _ _ _))))
   go_wp2
   go_ret;refine ⟨ag ?_,below_drewN HX.out _⟩;have:¬ ((l.length:Int)=cntC (m:Int)):=by rw [HL.out,HC.out];have:=HNE.out;simpa using this
   rw [fq,decide_eq_false this];simp
end Go.Proofs.YthjjfkeacobikaaGreat
