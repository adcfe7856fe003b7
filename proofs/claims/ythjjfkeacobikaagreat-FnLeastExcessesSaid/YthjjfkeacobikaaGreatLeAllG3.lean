import Derived.Test.YthjjfkeacobikaaGreatLeAllG2
import Derived.Test.YthjjfkeacobikaaGreatLeAllG0
import Derived.Deep.DeepCutAuto
import Derived.Deep.RegionHeld3
import Derived.Deep.RegionLaw
import Derived.StillTailTactics
set_option linter.unusedVariables false
set_option linter.unusedSimpArgs false
namespace Go.Proofs.YthjjfkeacobikaaGreat
set_option maxRecDepth 100000
open Go.RowKit
def popT (s:Nat) (k:Nat):Nat:=(List.range k).countP fun j=>bit (s:Int) j
theorem tu (s k:Nat):popT s (k+1)=popT s k+if bit (s:Int) k then 1 else 0:=by
 unfold popT;rw [List.range_succ,List.countP_append];simp [List.countP_cons]
theorem qy (s k:Nat):popT s k<=k:=by unfold popT;exact Nat.le_trans List.countP_le_length (by simp)
set_option maxHeartbeats 4000000 in
theorem iX (s:Nat) (hs:s<4294967296) (w:World):Calls Tryz.prog 245 #[.int .i64 (s:Int)] w fun e w'=>e=.returned (.int .i64 (popT s 5:Int))/\w=w':=by
 go_enter Tryz.func245,Tryz.ntmps245
 go_wp2_with fail
 go_loop [3,4] (fun nn kk=>∃ k:Nat,k<=5/\kk=.int .i64 (k:Int)/\nn=.int .i64 (popT s k:Int)) (fun _ kk=>5-(intOf kk).toNat)
 case atStart=>exact ⟨0,by omega,rfl,rfl⟩
 case round =>
  obtain ⟨k,hk,rfl,rfl⟩:=hrel;have hple:=qy s k;by_cases hlt:k<5
  ·have HP:=ae (dN (s:Int) (k:Int) w (by omega));have HB:=ae (iI (s:Int) k (by omega) (by omega));have HS:=ae (tu s k);cases hb:bit (s:Int) k
   all_goals
    rw [HB.out,hb] at HP;rw [hb] at HS;clear hb;go_wp2_with fail;refine HP.out.mono ?_;rintro e w' ⟨rfl,rfl⟩;go_wp2_with fail
    go_round
    case rel=>exact ⟨k+1,by omega,by go_num,by rw [HS.out];go_num⟩
    case measure=>simp [intOf];omega
  ·have hk5:k=5:=by omega
   subst hk5;go_wp2_with fail;go_ret;exact ⟨rfl,rfl⟩
def Tiny (V:List Int):Prop:=∀ k:Nat,-100<=V[k]?.getD 0/\V[k]?.getD 0<=100
theorem Tiny.zeros (n:Nat):Tiny (List.replicate n 0):=fun k=>by
 by_cases h:k<n
 ·simp [h]
 ·rw [List.getElem?_eq_none (by simp;omega)];simp
theorem Tiny.set {V:List Int} (h:Tiny V) (k:Nat) {x:Int} (h0:-100<=x) (h1:x<=100):Tiny (V.set k x):=fun j=>by
 by_cases e:j=k
 ·subst e;by_cases hj:j<V.length
  ·rw [List.getElem?_set_self hj];exact ⟨h0,h1⟩
  ·rw [List.getElem?_eq_none (by simp;omega)];simp
 ·rw [List.getElem?_set_ne (Ne.symm e)];exact h j
theorem dI {w w':World} {cb b:Nat} (hg:w.grownBy w' (some cb)) (hb:b<w.heap.size) (hne:b ≠ cb):w'.heap[b]?=w.heap[b]?:=hg.block b hb fun e=>hne (Option.some.inj e)
structure Dealt (w w':World) (cb most n vb:Nat) (V:List Int):Prop where
 lo:1<=n
 hi:n<=most
 len:V.length=cN n
 tiny:Tiny V
 zero:V[0]?.getD 0=0
 row:Row w' vb 3 V
 new:w.heap.size<=vb
 ne:vb ≠ cb
theorem Cur.put {w:World} {cb vb:Nat} {t:TypeId} {V:List Int} (h:Cur w cb) (hr:Row w vb t V) (hne:vb ≠ cb) (k:Nat) (v:Value):Cur (w.setCell ⟨vb,k,none⟩ v) cb:=by
 obtain ⟨ba,bn,bc,i,x,h1,h2,h3,h4,h5⟩:=h;refine ⟨ba,bn,bc,i,x,(heap_setCell_other _ _ _ _ (Ne.symm hne)).trans h1,⟨h2.hcap,h2.hmax,fun j hj=>?_⟩,h3,h4,h5⟩;obtain ⟨b,off,e,hc⟩:=h2.cell j hj;refine ⟨b,off,e,fun j hj=>?_⟩;obtain ⟨y,hy,hy1⟩:=hc j hj;refine ⟨y,(fm (heap_setCell_other _ _ _ _ ?_) _).trans hy,hy1⟩;intro e2;subst e2;rw [cell_of_row w b _ _ _ _ hr] at hy;simp [aZ,List.getElem?_map] at hy
structure DS (w wr:World) (cb vb gb rb n:Nat) (V:List Int):Prop where
 row:Row wr vb 3 V
 cur:Cur wr cb
 gbk:wr.heap[gb]?=some (.cells #[.int .i64 (n:Int),.slice (some ⟨vb,0,none⟩) (cN n) (cN n)] 29 (0,0))
 rbk:wr.heap[rb]?=some (.cells #[.int .i64 0,.slice none 0 0] 29 (0,0))
 grown:w.grownBy wr (some cb)
 apart:vb ≠ cb/\gb ≠ cb/\rb ≠ cb/\gb ≠ vb/\rb ≠ vb/\rb ≠ gb/\w.heap.size<=vb/\w.heap.size<=gb/\w.heap.size<=rb
theorem DS.call {w wr w':World} {cb vb gb rb n:Nat} {V:List Int} (h:DS w wr cb vb gb rb n V) (hc:Cur w' cb) (hg:wr.grownBy w' (some cb)):DS w w' cb vb gb rb n V :=
 ⟨(dI hg h.row.lt h.apart.1).trans h.row,hc,(dI hg (lt_of_block h.gbk) h.apart.2.1).trans h.gbk,(dI hg (lt_of_block h.rbk) h.apart.2.2.1).trans h.rbk,dK h.grown hg,h.apart⟩
theorem DS.ext {w wr w':World} {cb vb gb rb n:Nat} {V:List Int} (h:DS w wr cb vb gb rb n V) (hx:Ext wr w'):DS w w' cb vb gb rb n V :=
 h.call (h.cur.ext hx) (dJ _ hx)
theorem DS.put {w wr:World} {cb vb gb rb n:Nat} {V:List Int} (h:DS w wr cb vb gb rb n V) (k:Nat) (x:Int):DS w (wr.setCell ⟨vb,k,none⟩ (.int .i64 x)) cb vb gb rb n (V.set k x):=by
 obtain ⟨h1,h2,h3,h4,h5,h6,h7,h8,h9⟩:=h.apart;have ho:∀ j,j ≠ vb->(wr.setCell ⟨vb,k,none⟩ (.int .i64 x)).heap[j]?=wr.heap[j]?:=fun j hj=>heap_setCell_other _ _ _ _ hj
 refine ⟨h.row.set k x,h.cur.put h.row h1 k _,(ho _ h4).trans h.gbk,(ho _ h5).trans h.rbk,?_,h.apart⟩;have hg:=h.grown;exact ⟨hg.os,hg.tape,hg.output,by simpa using hg.size,fun j hj hne=>(ho j (by omega)).trans (hg.block j hj hne)⟩
theorem DS.c0 {w wr:World} {cb vb gb rb n:Nat} {V:List Int} (h:DS w wr cb vb gb rb n V):wr.cell? ⟨gb,0,none⟩=some (.int .i64 (n:Int)):=by rw [cell_of_row wr gb 0 _ _ _ h.gbk];rfl
theorem DS.c1 {w wr:World} {cb vb gb rb n:Nat} {V:List Int} (h:DS w wr cb vb gb rb n V):wr.cell? ⟨gb,1,none⟩=some (.slice (some ⟨vb,0,none⟩) (cN n) (cN n)):=by rw [cell_of_row wr gb 1 _ _ _ h.gbk];rfl
theorem Cur.put' {w:World} {cb b:Nat} (h:Cur w cb) (hne:b ≠ cb) (hno:∀ j x,w.cell? ⟨b,j,none⟩ ≠ some (.int .u8 x)) (k:Nat) (v:Value):Cur (w.setCell ⟨b,k,none⟩ v) cb:=by
 obtain ⟨ba,bn,bc,i,x,h1,h2,h3,h4,h5⟩:=h;refine ⟨ba,bn,bc,i,x,(heap_setCell_other _ _ _ _ (Ne.symm hne)).trans h1,⟨h2.hcap,h2.hmax,fun j hj=>?_⟩,h3,h4,h5⟩;obtain ⟨b',off,e,hc⟩:=h2.cell j hj;refine ⟨b',off,e,fun j hj=>?_⟩;obtain ⟨y,hy,hy1⟩:=hc j hj;refine ⟨y,(fm (heap_setCell_other _ _ _ _ ?_) _).trans hy,hy1⟩;intro e2;subst e2;exact hno _ _ hy
theorem lD {w W:World} {cb b:Nat} {x:Int} {s:Value} {t:TypeId} (hc:Cur W cb) (hb:W.heap[b]?=some (.cells #[.int .i64 x,s] t (0,0))) (hs:∀ y,s ≠ .int .u8 y) (hne:b ≠ cb) (hg:w.grownBy W (some cb)) (hw:w.heap.size<=b) (x':Int) (s':Value) (hs':∀ y,s' ≠ .int .u8 y) :
 Cur ((W.setCell ⟨b,0,none⟩ (.int .i64 x')).setCell ⟨b,1,none⟩ s') cb/\w.grownBy ((W.setCell ⟨b,0,none⟩ (.int .i64 x')).setCell ⟨b,1,none⟩ s') (some cb)/\(∀ j,j ≠ b->((W.setCell ⟨b,0,none⟩ (.int .i64 x')).setCell ⟨b,1,none⟩ s').heap[j]?=W.heap[j]?)/\((W.setCell ⟨b,0,none⟩ (.int .i64 x')).setCell ⟨b,1,none⟩ s').heap[b]?=some (.cells #[.int .i64 x',s'] t (0,0)):=by
 have ho:∀ j,j ≠ b->((W.setCell ⟨b,0,none⟩ (.int .i64 x')).setCell ⟨b,1,none⟩ s').heap[j]?=W.heap[j]?:=fun j hj=>by
  rw [heap_setCell_other _ _ _ _ hj,heap_setCell_other _ _ _ _ hj]
 have no:∀ {W:World} {x:Int} {s:Value},W.heap[b]?=some (.cells #[.int .i64 x,s] t (0,0))->(∀ y,s ≠ .int .u8 y)->∀ j y,W.cell? ⟨b,j,none⟩ ≠ some (.int .u8 y):=fun {W x s} hb hs j y e=>by
  rw [cell_of_row W b j _ _ _ hb] at e
  match j with
  | 0=>simp at e
  | 1=>exact hs y (by simpa using e)
  | j+2=>simp at e
 have h1:=heap_setCell_same W b 0 _ t (.int .i64 x') hb;have h1':(W.setCell ⟨b,0,none⟩ (.int .i64 x')).heap[b]?=some (.cells #[.int .i64 x',s] t (0,0)):=h1;have h2:=heap_setCell_same _ b 1 _ t s' h1';refine ⟨(hc.put' hne (no hb hs) 0 _).put' hne (no h1' hs) 1 _,⟨hg.os,hg.tape,hg.output,by simpa using hg.size,fun j hj hn=>(ho j (by omega)).trans (hg.block j hj hn)⟩,ho,h2⟩
theorem Ints.lit (w:World) (l:List Int) (t:TypeId) (hl:l.length<=9223372036854775807):Ints (w.alloc (.cells (aZ l) t)) (some ⟨w.heap.size,0,none⟩) l.length l.length l :=
 Row.ints (heap_alloc_new w _) rfl (Nat.le_refl _) hl
theorem pick8:∀ k,k<8->-100<=([0,1,2,3,5,8,-2,4]:List Int)[k]?.getD 0/\([0,1,2,3,5,8,-2,4]:List Int)[k]?.getD 0<=100:=by
 intro k hk;have:∀ k:Fin 8,-100<=([0,1,2,3,5,8,-2,4]:List Int)[k.val]?.getD 0/\([0,1,2,3,5,8,-2,4]:List Int)[k.val]?.getD 0<=100:=by decide
 exact this ⟨k,hk⟩
theorem s_maxE (x y:Int) (w:World):Calls Tryz.prog 122 #[.int .i64 x,.int .i64 y] w fun e w'=>e=.returned (.int .i64 (max x y))/\w=w':=by
 by_cases h:y<x
 all_goals
  have H:=ae h;go_enter Tryz.func122,Tryz.ntmps122
  go_wp2_with fail;go_ret;exact ⟨aQ (by have:=H.out;omega),rfl⟩
theorem dG (b:Bool) (y:Int) (h0:0<=y) (h1:y<=1):-100<=bitI b*(3+y*3)/\bitI b*(3+y*3)<=100:=by
 unfold bitI;cases b
 ·simp
 ·simp;omega
set_option maxHeartbeats 16000000 in
theorem po {w:World} {cb:Nat} (h:Cur w cb) (most:Nat) (h1:1<=most) (h5:most<=5) :
 Calls Tryz.prog 191 #[.pointer (some ⟨cb,0,none⟩),.int .i64 (most:Int)] w fun e w'=>(∃ (n vb:Nat) (V:List Int),e=.returned (.agg #[.int .i64 (n:Int),.slice (some ⟨vb,0,none⟩) (cN n) (cN n)])/\Dealt w w' cb most n vb V)/\Cur w' cb/\w.grownBy w' (some cb):=by
 have hcl:=h.lt;have HX:=ae (Ext.alloc w (.cells #[.int .i64 0,.slice none 0 0] 29));have HC:=ae (h.ext HX.out);have HB:=ae (en HC.out (most:Int) (by omega));have hrb:(w.alloc (.cells #[.int .i64 0,.slice none 0 0] 29)).heap[w.heap.size]?=some (.cells #[.int .i64 0,.slice none 0 0] 29 (0,0)):=heap_alloc_new _ _;have HRB:=ae hrb;clear h hrb;go_enter Tryz.func191,Tryz.ntmps191
 go_wp2_with fail;refine HB.out.mono ?_;rintro e w1 ⟨⟨x,rfl,hx0,hx1⟩,hc,hg⟩;have HC1:=ae hc;have HG1:=ae hg;have HRB1:=ae ((dI hg (by simp) (by omega)).trans HRB.out);have hs1:=hg.size;rw [World.size_alloc] at hs1;obtain ⟨n,hn⟩:∃ n:Nat,1+x=(n:Int):=⟨(1+x).toNat,by omega⟩;have hn1:1<=n:=by omega
 have hnm:n<=most:=by omega
 have hn5:n<=5:=by omega
 have hcn:=cX n hn5;have hmk:=ix (cN n) (by omega);clear hc hg hx0 hx1;go_wp2_with fail;refine (s_CountC n hn5 _).mono ?_;rintro e w2 ⟨rfl,rfl⟩;go_wp2_with fail;obtain ⟨vb,hvb⟩:∃ v,v=w1.heap.size:=⟨_,rfl⟩;obtain ⟨w2,hw2⟩:∃ W,W=(w1.alloc (.cells (aZ (List.replicate (cN n) 0)) 3)).alloc (.cells #[.int .i64 (n:Int),.slice (some ⟨w1.heap.size,0,none⟩) (cN n) (cN n)] 29):=⟨_,rfl⟩;rw [<-hw2,<-hvb]
 have HD2:=ae (show DS w w2 cb vb (vb+1) w.heap.size n (List.replicate (cN n) 0) by
  have hx:Ext w1 w2:=by rw [hw2];exact (Ext.alloc _ _).trans (Ext.alloc _ _)
  have hg1:w.grownBy w1 (some cb):=dK (dJ (some cb) HX.out) HG1.out;refine ⟨?_,HC1.out.ext hx,?_,(hx.block _ (lt_of_block HRB1.out)).trans HRB1.out,dK hg1 (dJ (some cb) hx),by omega⟩
  ·unfold Row;rw [hw2,bK _ _ _ (by simp;omega)];exact aj _ _ _ hvb
  ·rw [hw2,hvb];exact aj _ _ _ (by simp))
 clear hw2;refine (en HD2.out.cur 4 (by omega)).mono ?_;rintro e w3 ⟨⟨z,rfl,hz0,hz1⟩,hc,hg⟩;have HD3:=ae (HD2.out.call hc hg);have c1:=HD3.out.c1;clear hc hg hmk hn hvb;go_wp2_with fail
 go_loopg [8] (cN n-1) (fun gk ss wr=>∃ (s:Nat) (V:List Int),Hid (gk+s=cN n)/\ss=.int .i64 (s:Int)/\Hid (1<=s)/\Hid (V.length=cN n)/\Hid (Tiny V)/\Hid (V[0]?.getD 0=0)/\Hid (DS w wr cb vb (vb+1) w.heap.size n V))
 case atStart=>exact ⟨1,_,ae (by omega),rfl,ae (by omega),ae (by simp),ae (Tiny.zeros _),ae (by cases cN n <;> simp),HD3⟩
 case round =>
  obtain ⟨g1,h_g1⟩:∃ x,x=gk:=⟨_,rfl⟩;subst h_g1;obtain ⟨wr1,h_wr1⟩:∃ x,x=wr:=⟨_,rfl⟩;subst h_wr1;obtain ⟨s,V,HS,rfl,HS1,HVL,HTV,HV0,HD⟩:=hrel;clear c1;have c1:=HD.out.c1;by_cases hlt:s<cN n
  ·obtain ⟨zz,hzz⟩:∃ q:Int,q=(popT s 5:Int):=⟨_,rfl⟩;have hz5:0<=zz/\zz<=5:=by have:=qy s 5;omega
   have hsq:0<=zz*zz/\zz*zz<=25:=by
    have h1:zz*zz<=5*5:=Int.mul_le_mul (by omega) (by omega) (by omega) (by omega);have h2:0<=zz*zz:=Int.mul_nonneg (by omega) (by omega);omega
   obtain ⟨hsq0,hsq1⟩:=hsq;obtain ⟨hz50,hz51⟩:=hz5;have HZ:=ae hzz;have hss:s<4294967296:=by omega
   have hwz:IntKind.i64.wrap (zz*zz)=zz*zz:=by rw [IntKind.wrap_i64];omega
   clear hzz;have hcase:z=0 ∨ z=1 ∨ z=2 ∨ z=3:=by omega
   rcases hcase with rfl|rfl|rfl|rfl
   ·go_wp2_with fail;have hds:DS w wr1.drew cb vb (vb+1) w.heap.size n V:=HD.out.ext (Ext.drew wr1)
    go_region_held3 (fun w'=>w'.cell? ⟨vb+1,1,none⟩=some (.slice (some ⟨vb,0,none⟩) (cN n) (cN n)))
     (first|with_reducible exact hds.c1|with_reducible exact (hds.put _ _).c1)
     (first
       | (go_at_call 245;refine (iX s hss _).mono ?_;rw [<-HZ.out];rintro e w' ⟨rfl,rfl⟩)
       | (go_at_call 92
          refine (en hds.cur 2 (by omega)).mono ?_;rintro e w5 ⟨⟨y,rfl,hy0,hy1⟩,hc,hg⟩;have hds:=hds.call hc hg;have hcv:=hds.row.cell (k:=s) (by rw [HVL.out];exact hlt);have hfv:=hds.row.free s
          clear hc hg)
       | fail)
    all_goals
     go_wp2_with fail
     go_roundg (g1-1)
     case measure=>have:=HS.out;omega
     case rel =>
      refine ⟨s+1,_,ae (by have:=HS.out;omega),by go_num,ae (by omega),ae ?_,ae ?_,ae ?_,ae (hds.put s _)⟩
      ·rw [List.length_set];exact HVL.out
      ·refine HTV.out.set s ?_ ?_ <;> (first|omega|(rw [IntKind.wrap_i64];omega)|(have hb1:=dG (decide ((n:Int)<zz*2)) y hy0 hy1;unfold wrap64;omega))
      ·rw [List.getElem?_set_ne (by have:=HS1.out;omega)];exact HV0.out
   ·go_wp2_with fail;have hds0:DS w wr1.drew cb vb (vb+1) w.heap.size n V:=HD.out.ext (Ext.drew wr1);have hdsA:DS w (wr1.alloc (.cells #[.int .i64 0,.int .i64 1,.int .i64 2,.int .i64 3,.int .i64 5,.int .i64 8,.int .i64 (-2),.int .i64 4] 3)).drew cb vb (vb+1) w.heap.size n V:=(HD.out.ext (Ext.alloc _ _)).ext (Ext.drew _);have hli:Ints (wr1.alloc (.cells #[.int .i64 0,.int .i64 1,.int .i64 2,.int .i64 3,.int .i64 5,.int .i64 8,.int .i64 (-2),.int .i64 4] 3)).drew (some ⟨wr1.heap.size,0,none⟩) 8 8 [0,1,2,3,5,8,-2,4]:=(Ints.lit wr1 [0,1,2,3,5,8,-2,4] 3 (by decide)).ext (Ext.drew _);have hcl2:=HD.out.cur.lt
    go_region_held3 (fun w'=>w'.cell? ⟨vb+1,1,none⟩=some (.slice (some ⟨vb,0,none⟩) (cN n) (cN n)))
     (first|with_reducible exact hds0.c1|with_reducible exact hdsA.c1|with_reducible exact hds.c1|with_reducible exact (hds.put _ _).c1)
     (first
       | (go_at_call 106
          refine (dP hdsA.cur hli (by omega) (fun b off e=>by simp only [Option.some.injEq,Addr.mk.injEq,and_true] at e;omega)).mono ?_;rintro e w5 ⟨⟨k,hk,rfl⟩,hc,hg⟩;have hpk:=pick8 k hk;obtain ⟨y,hy⟩:∃ y,y=([0,1,2,3,5,8,-2,4]:List Int)[k]?.getD 0:=⟨_,rfl⟩;rw [<-hy] at hpk;rw [<-hy];obtain ⟨hy0,hy1⟩:=hpk;clear hy;have hds:=hdsA.call hc hg;have hcv:=hds.row.cell (k:=s) (by rw [HVL.out];exact hlt);have hfv:=hds.row.free s
          clear hc hg)
       | fail)
    all_goals
     go_wp2_with fail
     go_roundg (g1-1)
     case measure=>have:=HS.out;omega
     case rel =>
      refine ⟨s+1,_,ae (by have:=HS.out;omega),by go_num,ae (by omega),ae ?_,ae ?_,ae ?_,ae (hds.put s _)⟩
      ·rw [List.length_set];exact HVL.out
      ·exact HTV.out.set s hy0 hy1
      ·rw [List.getElem?_set_ne (by have:=HS1.out;omega)];exact HV0.out
   ·have hw3:IntKind.i64.wrap (3*zz)=3*zz:=by rw [IntKind.wrap_i64];omega
    have hw32:IntKind.i64.wrap (3*zz-2)=3*zz-2:=by rw [IntKind.wrap_i64];omega
    go_wp2_with fail;have hds:DS w wr1.drew cb vb (vb+1) w.heap.size n V:=HD.out.ext (Ext.drew wr1)
    go_region_held3 (fun w'=>w'.cell? ⟨vb+1,1,none⟩=some (.slice (some ⟨vb,0,none⟩) (cN n) (cN n)))
     (first|with_reducible exact hds.c1|with_reducible exact (hds.put _ _).c1)
     (first
       | (go_at_call 245;refine (iX s hss _).mono ?_;rw [<-HZ.out];rintro e w' ⟨rfl,rfl⟩)
       | (go_at_call 122;refine (s_maxE _ _ _).mono ?_;rintro e w' ⟨rfl,rfl⟩)
       | (go_at_call 92
          refine (en hds.cur 2 (by omega)).mono ?_;rintro e w5 ⟨⟨y,rfl,hy0,hy1⟩,hc,hg⟩;have hds:=hds.call hc hg;have hcv:=hds.row.cell (k:=s) (by rw [HVL.out];exact hlt);have hfv:=hds.row.free s;have hwy:IntKind.i64.wrap (3*zz-2-y)=3*zz-2-y:=by rw [IntKind.wrap_i64];omega
          clear hc hg)
       | fail)
    all_goals
     go_wp2_with fail
     go_roundg (g1-1)
     case measure=>have:=HS.out;omega
     case rel =>
      refine ⟨s+1,_,ae (by have:=HS.out;omega),by go_num,ae (by omega),ae ?_,ae ?_,ae ?_,ae (hds.put s _)⟩
      ·rw [List.length_set];exact HVL.out
      ·refine HTV.out.set s ?_ ?_ <;> (first|omega|(rw [IntKind.wrap_i64];omega)|exact (dG _ _ hy0 hy1).1|exact (dG _ _ hy0 hy1).2|(have hb1:=dG (decide ((n:Int)<zz*2)) y hy0 hy1;rw [IntKind.wrap_i64];omega)|(have hb1:=dG (decide ((n:Int)<zz*2)) y hy0 hy1;unfold wrap64;omega))
      ·rw [List.getElem?_set_ne (by have:=HS1.out;omega)];exact HV0.out
   ·have hw3:IntKind.i64.wrap (zz*2)=zz*2:=by rw [IntKind.wrap_i64];omega
    go_wp2_with fail;have hds:DS w wr1.drew cb vb (vb+1) w.heap.size n V:=HD.out.ext (Ext.drew wr1)
    go_region_held3 (fun w'=>w'.cell? ⟨vb+1,1,none⟩=some (.slice (some ⟨vb,0,none⟩) (cN n) (cN n)))
     (first|with_reducible exact hds.c1|with_reducible exact (hds.put _ _).c1)
     (first
       | (go_at_call 245;refine (iX s hss _).mono ?_;rw [<-HZ.out];rintro e w' ⟨rfl,rfl⟩)
       | (go_at_call 74;refine (fw _ _).mono ?_;rintro e w' ⟨rfl,rfl⟩)
       | (go_at_call 92
          refine (en hds.cur 2 (by omega)).mono ?_;rintro e w5 ⟨⟨y,rfl,hy0,hy1⟩,hc,hg⟩;have hds:=hds.call hc hg;have hcv:=hds.row.cell (k:=s) (by rw [HVL.out];exact hlt);have hfv:=hds.row.free s;have hwy:IntKind.i64.wrap (y*3)=y*3:=by rw [IntKind.wrap_i64];omega
          have hwy3:IntKind.i64.wrap (3+y*3)=3+y*3:=by rw [IntKind.wrap_i64];omega
          clear hc hg)
       | fail)
    all_goals
     go_wp2_with fail
     go_roundg (g1-1)
     case measure=>have:=HS.out;omega
     case rel =>
      refine ⟨s+1,_,ae (by have:=HS.out;omega),by go_num,ae (by omega),ae ?_,ae ?_,ae ?_,ae (hds.put s _)⟩
      ·rw [List.length_set];exact HVL.out
      ·refine HTV.out.set s ?_ ?_ <;> (first|omega|(rw [IntKind.wrap_i64];omega)|exact (dG _ _ hy0 hy1).1|exact (dG _ _ hy0 hy1).2|(have hb1:=dG (decide ((n:Int)<zz*2)) y hy0 hy1;rw [IntKind.wrap_i64];omega)|(have hb1:=dG (decide ((n:Int)<zz*2)) y hy0 hy1;unfold wrap64;omega))
      ·rw [List.getElem?_set_ne (by have:=HS1.out;omega)];exact HV0.out
  ·have hsn:s=cN n:=by have:=HS.out;omega
   subst hsn;have c0:=HD.out.c0;have hrbk:=HD.out.rbk;have r0:wr1.cell? ⟨w.heap.size,0,none⟩=some (.int .i64 0):=by rw [cell_of_row wr1 w.heap.size 0 _ _ _ hrbk];rfl
   have r1:wr1.cell? ⟨w.heap.size,1,none⟩=some (.slice none 0 0):=by rw [cell_of_row wr1 w.heap.size 1 _ _ _ hrbk];rfl
   have rf:∀ o,wr1.frozen? ⟨w.heap.size,o,none⟩=false:=fun o=>frozen_of_row wr1 w.heap.size o _ _ hrbk
   have rf0:=rf 0;have rf1:=rf 1;have HFIN:=ae (lD (w:=w) HD.out.cur hrbk (by intro y;simp) HD.out.apart.2.2.1 HD.out.grown (Nat.le_refl _) (n:Int) (.slice (some ⟨vb,0,none⟩) (cN n) (cN n)) (by intro y;simp));have HZ0:=ae (show ((wr1.setCell ⟨w.heap.size,0,none⟩ (.int .i64 (n:Int))).setCell ⟨w.heap.size,1,none⟩ (.slice (some ⟨vb,0,none⟩) (cN n) (cN n))).cell? ⟨w.heap.size,0,none⟩=some (.int .i64 (n:Int)) by rw [cell_of_row _ _ 0 _ _ _ HFIN.out.2.2.2];rfl);have HZ1:=ae (show ((wr1.setCell ⟨w.heap.size,0,none⟩ (.int .i64 (n:Int))).setCell ⟨w.heap.size,1,none⟩ (.slice (some ⟨vb,0,none⟩) (cN n) (cN n))).cell? ⟨w.heap.size,1,none⟩=some (.slice (some ⟨vb,0,none⟩) (cN n) (cN n)) by rw [cell_of_row _ _ 1 _ _ _ HFIN.out.2.2.2];rfl);clear hrbk rf;go_wp2_with fail;refine bodyPost_ret (v:=.agg #[.int .i64 (n:Int),.slice (some ⟨vb,0,none⟩) (cN n) (cN n)]) (by simp [results,Tryz.results191,go_sem,HZ0.out,HZ1.out]) rfl ⟨⟨n,vb,V,rfl,hn1,hnm,HVL.out,HTV.out,HV0.out,?_,HD.out.apart.2.2.2.2.2.2.1,HD.out.apart.1⟩,HFIN.out.1,HFIN.out.2.1⟩;exact (HFIN.out.2.2.1 vb (by have:=HD.out.apart;omega)).trans HD.out.row
theorem OwnI.made (w:World) (base:Nat) (hb:base<=w.heap.size):OwnI (w.alloc (.cells #[] 3)) base (.slice (some ⟨w.heap.size,0,none⟩) 0 0) [] :=
 World.ownsRow_lit w #[] 0 hb (by omega) rfl
set_option maxHeartbeats 400000 in
theorem kQ {w:World} {a:Option Addr} {n cap:Nat} {l:List Int} (h:Ints w a n cap l) (hb:n<=1099511627776) :
 Calls Tryz.prog 109 #[.slice a n cap] w fun e w'=>∃ v,e=.returned v/\OwnI w' w.heap.size v l/\Ext w w':=by
 have heq:∀ w':World,(binOp .eql 24 (.slice a n cap) (.slice none 0 0)).run Tryz.prog w'=.ok (.bool a.isNone) w':=fun w'=>Lib.run_eql_slice_nil w' _ _ a n cap 0 0 Tryz.underlying24
 have HL:=ae h.hlen;cases a with
 | none =>
   have hl:l=[]:=by
    have:¬ 0<n:=fun hn=>by obtain ⟨b,off,e,_⟩:=h.cell 0 hn;cases e
    exact List.eq_nil_of_length_eq_zero (by have:=HL.out;omega)
   simp only [Option.isNone_none] at heq;go_enter Tryz.func109,Tryz.ntmps109
   go_wp2
   go_ret;exact ⟨_,rfl,by rw [hl];exact OwnI.nil w _,Ext.refl _⟩
 | some ad =>
   simp only [Option.isNone_some] at heq;have HI:=ae (h.alloc (.cells #[] 3));have HO:=ae (OwnI.made w w.heap.size (Nat.le_refl _));clear h;go_enter Tryz.func109,Tryz.ntmps109
   go_wp2_with (first|(at_builtin;refine bm rfl _ _ rfl w.heap.size _ _ rfl HO.out _ n _ l rfl HI.out (by simpa using hb) (by simp) ?_;intro v' w1 ho hg hnear));go_ret;exact ⟨_,rfl,ho,ak (Ext.alloc _ _) hg (fun k hk=>Nat.le_of_eq (Option.some.inj (show some w.heap.size=some k from hk)))⟩
section
variable {w0 w:World} {cb:Nat} {a':Option Addr} {n' c':Nat} {C:List Int} {base:Nat} {a:Option Addr} {n cap:Nat}
end
theorem Ints.oneS (w:World) (x:Int) (t:TypeId) (n:Nat) (hn:n=w.heap.size):Ints (w.alloc (.cells #[.int .i64 x] t)) (some ⟨n,0,none⟩) 1 1 [x]:=by
 subst hn;exact Ints.one w x t
theorem OwnI.madeS (w:World) (base n:Nat) (hn:n=w.heap.size) (hb:base<=w.heap.size):OwnI (w.alloc (.cells #[] 3)) base (.slice (some ⟨n,0,none⟩) 0 0) []:=by
 subst hn;exact OwnI.made w base hb
end Go.Proofs.YthjjfkeacobikaaGreat
