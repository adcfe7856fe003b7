import Derived.Test.YtooiaklfmodcbaaGreatDoorRtAllG7
import Derived.Lib.ItoaNum
import Derived.Lib.Join
import Derived.Shelf.Strings.Prefix
import Derived.Shelf.Small.Wraps
import Derived.Shelf.Strings.OnBuilder
import Derived.Shelf.Strings.Cut
import Derived.Shelf.Strings.Replace
set_option linter.all false
set_option maxHeartbeats 6000000
set_option maxRecDepth 100000
namespace Go.Proofs.YtooiaklfmodcbaaGreatDoor
open Ending renaming returned->ar
open List renaming length->JL
open Obj renaming cells->QD
open Value renaming slice->GI,bool->bl,string->aE,pointer->aP
open Go.Proofs.Tryz Go.RowKit Go.Shelf
variable{σ:Prop}
section
abbrev QP:=@Lib.join_cons
abbrev tg:=@Lib.join_one
def TL(h:σ:=by simp[results,results85,go_sem,f0,f1]<;>rfl):σ:=h
def pj(h:σ:=by simp[results,results35,go_sem,f0,f1]):σ:=h
def Nd(h:σ:=by have:=A0.size;simp;omega):σ:=h
def tx(h:σ:=by simp only[z7,H1.o,H2.o];by_cases h:gI x y=1<;>simp[h]):σ:=h
def sa(h:σ:=by intro e;rw[e]at hl;cases hl):σ:=h
def TT(h:σ:=by rw[<-HS.o];omega):σ:=h
variable{w:J}{l:List UInt8}
def d9.Qm(w:J)(l:o3)(t:TypeId)(hl:JL l<=100)(c:Array arQ)(hc:c=(l.map (Value.int .i64)).toArray):d9 (w.alloc (QD c t)) (some (O w 0)) (JL l) (JL l) l:=by
 subst hc;refine⟨rfl,i8 _,by omega,λk G=>⟨_,0,rfl,λk G=>?_⟩⟩;rw[aR _ w _ _ _ _ (vC w _)];simp[G]
def QL{t t':TypeId}:dB (((w.alloc (QD #[U 5,U 8] t)).alloc (QD #[U 3,U 5] t)).alloc (QD #[EQ w 2 2,EQ (w+1) 2 2] t')) (some (O (w.heap.size+1+1) 0)) 2 2 [[5,8],[3,5]]:=by
 have Z:d9 (w.alloc (QD #[U 5,U 8] t)) (some (O w 0)) 2 2 [5,8]:=d9.Qm w [5,8] t Fd _ rfl;have K:d9 ((w.alloc (QD #[U 5,U 8] t)).alloc (QD #[U 3,U 5] t)) (some (O (w+1) 0)) 2 2 [3,5]:=by
  have:=d9.Qm (w.alloc (QD #[U 5,U 8] t)) [3,5] t Fd _ rfl;rw[O6]at this;exact this
 refine⟨rfl,i8 _,by omega,λk H=>⟨_,0,rfl,λk H=>?_⟩⟩;have G:k=0∨k=1:=j0;rcases G with rfl|rfl
 ·exact⟨_,_,_,by rw[aR _ (w.heap.size+1+1) _ _ _ _ (IO j7)];rfl,(Z.ext WU).ext WU⟩
 exact⟨_,_,_,by rw[aR _ (w.heap.size+1+1) _ _ _ _ (IO j7)];rfl,K.ext WU⟩
def IE(k:Int):Bool:=decide (1<=k/\k<=5)
def Zp(w:J)(base:Nat)(e:Ending)(k:Int):Prop:=∃v,e=ar (.tuple #[.agg #[U (Gq k:Int),v],bl (IE k)])/\r' w base v (Ge k)
def Zp.of{base:Nat}{k:Int}{a:l9}{n c p:Nat}{ok:Bool}{L:o3}(G:Gq k=p/\Ge k=L/\IE k=ok)(ho:r' w base (GI a n c) L):Zp w base (ar (.tuple #[.agg #[U p,GI a n c],bl ok])) k:=by
 obtain⟨rfl,rfl,rfl⟩:=G;exact⟨_,rfl,ho⟩
def fm{W:J}{b:Nat}{x:Int}{a:l9}{n c:Nat}{L:o3}{x0 Z:arQ}{t:TypeId}(hb:W.heap[b]?=some (QD #[x0,Z] t (0,0)))(h:C7 w W)(G:w.heap.size<=b)(ho:r' W (b+1) (GI a n c) L):
 ((W.setCell (O b 0) (U x)).setCell (O b 1) (GI a n c)).cell? (O b 0)=some (U x)/\((W.setCell (O b 0) (U x)).setCell (O b 1) (GI a n c)).cell? (O b 1)=some (GI a n c) /\
   C7 w ((W.setCell (O b 0) (U x)).setCell (O b 1) (GI a n c))/\r' ((W.setCell (O b 0) (U x)).setCell (O b 1) (GI a n c)) (b+1) (GI a n c) L:=by
 have K:=cE _ _ 1 _ _ (GI a n c) (cE W b 0 _ _ (U x) hb);exact⟨bI K,aH K,(h.setCell (p:=(O b 0)) G _).setCell (p:=(O b 1)) G _,ho.keep λj H=>(GE _ _ _ _ (by have:=(ho.lt j H).1;show j≠b;omega)).trans (GE _ _ _ _ (by have:=(ho.lt j H).1;show j≠b;omega))⟩
def NG(h:σ:=by
 go_in
 go_upto_region 1 with fail;rw[<-hW];clear hW;go_wp2_with fail;refine HM.mono ?_;rintro e w1 ⟨⟨v,rfl,ho⟩,hx⟩;obtain⟨a1,n1,c1,rfl,HN⟩:=ho.var;have H':=HC.trans hx;have EU:=Hv H' DO.o;have Q6:=HC.size;have Ml:=DW.o;have GK:=I (fm (x:=(pp:Int)) EU (A8.trans H') (i8 _) (ho.mono j0));have r0:=bI EU;have r1:=aH EU;have rf:=λj=>mo w1 w.heap.size j _ _ EU
 have⟨f0,f1,fx,fo⟩:=GK.o;have FX:=I fx;have FO:=I (fo.mono (b7 _));clear GK fx fo hx H' EU ho Ml;go_wp2;refine Fn TL rfl ⟨Zp.of (p:=pp) HF.o FO.o,FX⟩
 ):σ:=h
def Cu(k:Int):Calls prog 85 #[U k] w λe w'=>Zp w' w e k/\C7 w w':=by
 have⟨W,hW⟩:=e9 (w.alloc (QD #[U 0,d6] 31));refine t8 (show W.heap.size=w.heap.size+1 by rw[hW];simp) (show C7 w W by rw[hW];exact WU) (show W.heap[w.heap.size]?=some (QD #[U 0,d6] 31 (0,0))by rw[hW];exact IO rfl) λDW A8 DO=>?_;by_cases h1:k=1
 ·subst h1;have HM:=I (show Calls prog 78 #[U 3,.func (.func 158) #[] #[]] W λe w'=>jd w' W e 3 (Er MS (cN 3)) true/\C7 W w' from
   nY (n:=3) j0 j0 yL (λs w1 hs hx=>by simpa using AS s (k8 ((bp 3 j0).2)) w1) Fd Fd)
  have HF:b9 (Gq 1=3/\Ge 1=Er MS (cN 3)/\IE 1=true):=I ⟨rfl,rfl,rfl⟩;have HC:b9 (C7 W W):=C7.refl W;go_in
  go_upto_region 1 with fail;rw[<-hW];clear hW;go_wp2_with fail;refine PP HM λw1 v ho hx=>?_;obtain⟨a1,n1,c1,rfl,HN⟩:=ho.var;have H':=HC.trans hx;have EU:=Hv H' DO.o;have Q6:=HC.size;have Ml:=DW.o;have GK:=I (fm (x:=3) EU (A8.trans H') (i8 _) (ho.mono j0));have r0:=bI EU;have r1:=aH EU;have rf:=λj=>mo w1 w j _ _ EU
  have⟨f0,f1,fx,fo⟩:=GK.o;have FX:=I fx;have FO:=I (fo.mono (b7 _));clear fx fo H' EU ho Ml;go_wp2;refine Fn TL rfl ⟨Zp.of (p:=3) HF.o FO.o,FX⟩
 by_cases h2:k=2
 ·subst h2;have HM:=I (qa (x:=2) (y:=2) (QL (w:=W) (t:=3) (t':=29)));have⟨pp,Nd⟩:=e9 (NX 2 2 [[5,8],[3,5]]);have⟨LL,NP⟩:=e9 (MV 2 2 [[5,8],[3,5]]);have⟨ok,G⟩:=e9 (dA 2 2 [[5,8],[3,5]]);rw[<-Nd,<-NP,<-G]at HM;have HF:b9 (Gq 2=pp/\Ge 2=LL/\IE 2=ok):=I ⟨Nd.symm,NP.symm,by rw[G];kernel_rfl⟩;clear Nd NP G;have HC:b9 (C7 W (((W.alloc (QD #[U 5,U 8] 3)).alloc (QD #[U 3,U 5] 3)).alloc (QD #[EQ W 2 2,EQ (W+1) 2 2] 29))):=((((((C7.refl W).trans WU)).trans WU)).trans WU);exact NG
 by_cases Z:k=3
 ·subst Z;have HM:=I (qb (q:=200) (show d9 (W.alloc (QD #[U 100,U 100,U 100] 3)) (some (O W 0)) 3 3 [100,100,100]from d9.Qm W [100,100,100] 3 Fd _ rfl));have⟨pp,Nd⟩:=e9 (jG 200 [100,100,100]);have⟨LL,NP⟩:=e9 (iz 200 [100,100,100]);have⟨ok,G⟩:=e9 (aV 0 200 [100,100,100]);rw[<-Nd,<-NP,<-G]at HM;have HF:b9 (Gq 3=pp/\Ge 3=LL/\IE 3=ok):=I ⟨Nd.symm,NP.symm,by rw[G];kernel_rfl⟩;clear Nd NP G;have HC:b9 (C7 W (W.alloc (QD #[U 100,U 100,U 100] 3))):=((C7.refl W).trans WU);exact NG
 by_cases K:k=4
 ·subst K;have HM:=I (wG (q:=4) (show d9 (W.alloc (QD #[U 3,U 2,U 1,U 1] 3)) (some (O W 0)) 4 4 [3,2,1,1]from d9.Qm W [3,2,1,1] 3 Fd _ rfl));have⟨pp,Nd⟩:=e9 (kd 4 [3,2,1,1]);have⟨LL,NP⟩:=e9 (iP 4 [3,2,1,1]);have⟨ok,G⟩:=e9 (aV 1 4 [3,2,1,1]);rw[<-Nd,<-NP,<-G]at HM;have HF:b9 (Gq 4=pp/\Ge 4=LL/\IE 4=ok):=I ⟨Nd.symm,NP.symm,by rw[G];kernel_rfl⟩;clear Nd NP G;have HC:b9 (C7 W (W.alloc (QD #[U 3,U 2,U 1,U 1] 3))):=((C7.refl W).trans WU);exact NG
 by_cases H:k=5
 ·subst H;have HM:=I (show Calls prog 78 #[U 4,.func (.func 163) #[] #[]] W λe w'=>jd w' W e 4 (Er PM (cN 4)) true/\C7 W w' from
   nY (n:=4) j0 j0 yM (λs w1 hs hx=>by simpa using AT s (k8 ((bp 4 j0).2)) w1) Fd Fd)
  have HF:b9 (Gq 5=4/\Ge 5=Er PM (cN 4)/\IE 5=true):=I ⟨rfl,rfl,rfl⟩;have HC:b9 (C7 W W):=C7.refl W;go_in
  go_upto_region 1 with fail;rw[<-hW];clear hW;go_wp2_with fail;refine PP HM λw1 v ho hx=>?_;obtain⟨a1,n1,c1,rfl,HN⟩:=ho.var;have H':=HC.trans hx;have EU:=Hv H' DO.o;have Q6:=HC.size;have Ml:=DW.o;have GK:=I (fm (x:=4) EU (A8.trans H') (i8 _) (ho.mono j0));have r0:=bI EU;have r1:=aH EU;have rf:=λj=>mo w1 w j _ _ EU
  have⟨f0,f1,fx,fo⟩:=GK.o;have FX:=I fx;have FO:=I (fo.mono (b7 _));clear fx fo H' EU ho Ml;go_wp2;refine Fn TL rfl ⟨Zp.of (p:=4) HF.o FO.o,FX⟩
 have e1:(k == 1)=false:=by simpa using h1
 have e2:(k == 2)=false:=by simpa using h2
 have e3:(k == 3)=false:=by simpa using Z
 have e4:(k == 4)=false:=by simpa using K
 have e5:(k == 5)=false:=by simpa using H
 have HF:=I (show Gq k=0/\Ge k=[]/\IE k=false by refine⟨?_,?_,Ok j0⟩<;>(first|unfold Gq|unfold Ge)<;>simp[h1,h2,Z,K,H]);have r0:=bI DO.o;have r1:=aH DO.o;have rf:=λj=>mo W w j _ _ DO.o
 have⟨f0,f1,fx,fo⟩:=fm (x:=0) (a:=none) (n:=0) (c:=0) (L:=[]) DO.o A8.o (i8 _) C1;have FX:=I fx;have FO:=I (fo.mono (b7 _));clear fx fo h1 h2 Z K H;go_in
 go_upto_region 1 with fail;rw[<-hW];clear hW;go_wp2;refine Fn TL rfl ⟨Zp.of (p:=0) HF.o FO.o,FX⟩
def VJ(h:σ:=by
 go_in
 go_upto_region 2 with fail;rw[<-hW];clear hW;go_wp2_with fail;refine HM.mono ?_;rintro e w1 ⟨⟨v,rfl,ho⟩,hx⟩;obtain⟨a1,n1,c1,rfl,HN⟩:=ho.var;have H':=HC.trans hx;have EU:=Hv H' DO.o;have H9:=Hv H' EB.o;have Q6:=HC.size;have Ml:=DW.o;have r0:=bI EU;have r1:=aH EU;have rf:=λj=>mo w1 w.heap.size j _ _ EU
 have g0:=bI H9;have g1:=aH H9;have gf:=λj=>mo w1 (w.heap.size+1) j _ _ H9
 have Ob:=I (fm (x:=(pp:Int)) H9 (A8.trans H') (b7 _) (ho.mono j0));have GK:=I (fm (x:=(pp:Int)) (W:=(w1.setCell (O (w.heap.size+1) 0) (U pp)).setCell (O (w.heap.size+1) 1) (GI a1 n1 c1)) (b:=w.heap.size) ((GE _ _ _ _ K5).trans ((GE _ _ _ _ K5).trans EU)) Ob.2.2.1 (i8 _) (Ob.2.2.2.mono (b7 _)));have⟨f0,f1,fx,fo⟩:=GK.o;have FX:=I fx;have FO:=I (fo.mono (b7 _));clear GK Ob fx fo hx H' EU H9 ho Ml;go_wp2;refine Fn (v:=.agg #[U pp,GI a1 n1 c1]) pj rfl ⟨⟨_,by rw[HF.1],by rw[HF.2.1];exact FO⟩,FX⟩
 ):σ:=h
def uM(k:Int):Calls prog 35 #[U k] w λe w'=>(∃v,e=ar (.agg #[U (Gq k:Int),v])/\r' w' w v (Ge k))/\C7 w w':=by
 have⟨W,hW⟩:=e9 ((w.alloc (QD #[U 0,d6] 31)).alloc (QD #[U 0,d6] 31));refine Op (show W.heap.size=w.heap.size+2 by rw[hW];simp) (show C7 w W by rw[hW];exact WU.trans WU) (show W.heap[w.heap.size]?=some (QD #[U 0,d6] 31 (0,0))by rw[hW,aZ _ _ _ j7];exact IO rfl) (show W.heap[w.heap.size+1]?=some (QD #[U 0,d6] 31 (0,0))by rw[hW];exact IO j7) λDW A8 DO EB=>?_;by_cases h1:k=1
 ·subst h1;have HM:=I (show Calls prog 89 #[U 3,EQ W 4 4] (W.alloc (QD #[U 0,U 0,U 6,U 6] 3)) λe w'=>(∃v,e=ar (.agg #[U 3,v])/\r' w' (W.alloc (QD #[U 0,U 0,U 6,U 6] 3)).heap.size v (Er MS (cN 3)))/\C7 (W.alloc (QD #[U 0,U 0,U 6,U 6] 3)) w' from by
   have h:=sp (n:=3) (show d9 (W.alloc (QD #[U 0,U 0,U 6,U 6] 3)) (some (O W 0)) 4 4 [0,0,6,6]from d9.Qm W [0,0,6,6] 3 Fd _ rfl) j0 Fd;rw[Xo]at h;exact h)
  have HF:b9 (Gq 1=3/\Ge 1=Er MS (cN 3)/\IE 1=true):=I ⟨rfl,rfl,rfl⟩;have HC:b9 (C7 W (W.alloc (QD #[U 0,U 0,U 6,U 6] 3))):=((C7.refl W).trans WU);go_in
  go_upto_region 2 with fail;rw[<-hW];clear hW;go_wp2_with fail;refine PP HM λw1 v ho hx=>?_;obtain⟨a1,n1,c1,rfl,HN⟩:=ho.var;have H':=HC.trans hx;have EU:=Hv H' DO.o;have H9:=Hv H' EB.o;have Q6:=HC.size;have Ml:=DW.o;have r0:=bI EU;have r1:=aH EU;have rf:=λj=>mo w1 w j _ _ EU
  have g0:=bI H9;have g1:=aH H9;have gf:=λj=>mo w1 (w+1) j _ _ H9
  have Ob:=I (fm (x:=3) H9 (A8.trans H') (b7 _) (ho.mono j0));have GK:=I (fm (x:=3) (W:=(w1.setCell (O (w+1) 0) (U 3)).setCell (O (w+1) 1) (GI a1 n1 c1)) (b:=w.heap.size) ((GE _ _ _ _ K5).trans ((GE _ _ _ _ K5).trans EU)) Ob.2.2.1 (i8 _) (Ob.2.2.2.mono (b7 _)));have⟨f0,f1,fx,fo⟩:=GK.o;have FX:=I fx;have FO:=I (fo.mono (b7 _));clear fx fo H' EU H9 ho Ml;go_wp2;refine Fn (v:=.agg #[U 3,GI a1 n1 c1]) pj rfl ⟨⟨_,by rw[HF.1];rfl,by rw[HF.2.1];exact FO⟩,FX⟩
 by_cases h2:k=2
 ·subst h2;have HM:=I (qw (x:=2) (y:=2) (QL (w:=W) (t:=3) (t':=29)));have⟨pp,Nd⟩:=e9 (NX 2 2 [[5,8],[3,5]]);have⟨LL,NP⟩:=e9 (MV 2 2 [[5,8],[3,5]]);have⟨ok,G⟩:=e9 (dA 2 2 [[5,8],[3,5]]);rw[<-Nd,<-NP,<-G]at HM;have HF:b9 (Gq 2=pp/\Ge 2=LL/\IE 2=ok):=I ⟨Nd.symm,NP.symm,by rw[G];kernel_rfl⟩;clear Nd NP G;have HC:b9 (C7 W (((W.alloc (QD #[U 5,U 8] 3)).alloc (QD #[U 3,U 5] 3)).alloc (QD #[EQ W 2 2,EQ (W+1) 2 2] 29))):=((((((C7.refl W).trans WU)).trans WU)).trans WU);exact VJ
 by_cases Z:k=3
 ·subst Z;have HM:=I (qx (q:=200) (show d9 (W.alloc (QD #[U 100,U 100,U 100] 3)) (some (O W 0)) 3 3 [100,100,100]from d9.Qm W [100,100,100] 3 Fd _ rfl));have⟨pp,Nd⟩:=e9 (jG 200 [100,100,100]);have⟨LL,NP⟩:=e9 (iz 200 [100,100,100]);have⟨ok,G⟩:=e9 (aV 0 200 [100,100,100]);rw[<-Nd,<-NP,<-G]at HM;have HF:b9 (Gq 3=pp/\Ge 3=LL/\IE 3=ok):=I ⟨Nd.symm,NP.symm,by rw[G];kernel_rfl⟩;clear Nd NP G;have HC:b9 (C7 W (W.alloc (QD #[U 100,U 100,U 100] 3))):=((C7.refl W).trans WU);exact VJ
 by_cases K:k=4
 ·subst K;have HM:=I (xO (q:=4) (show d9 (W.alloc (QD #[U 3,U 2,U 1,U 1] 3)) (some (O W 0)) 4 4 [3,2,1,1]from d9.Qm W [3,2,1,1] 3 Fd _ rfl));have⟨pp,Nd⟩:=e9 (kd 4 [3,2,1,1]);have⟨LL,NP⟩:=e9 (iP 4 [3,2,1,1]);have⟨ok,G⟩:=e9 (aV 1 4 [3,2,1,1]);rw[<-Nd,<-NP,<-G]at HM;have HF:b9 (Gq 4=pp/\Ge 4=LL/\IE 4=ok):=I ⟨Nd.symm,NP.symm,by rw[G];kernel_rfl⟩;clear Nd NP G;have HC:b9 (C7 W (W.alloc (QD #[U 3,U 2,U 1,U 1] 3))):=((C7.refl W).trans WU);exact VJ
 by_cases H:k=5
 ·subst H;have HM:=I (show Calls prog 89 #[U 4,EQ W 5 5] (W.alloc (QD #[U 0,U 10,U 40,U 90,U 160] 3)) λe w'=>(∃v,e=ar (.agg #[U 4,v])/\r' w' (W.alloc (QD #[U 0,U 10,U 40,U 90,U 160] 3)).heap.size v (Er PM (cN 4)))/\C7 (W.alloc (QD #[U 0,U 10,U 40,U 90,U 160] 3)) w' from by
   have h:=sp (n:=4) (show d9 (W.alloc (QD #[U 0,U 10,U 40,U 90,U 160] 3)) (some (O W 0)) 5 5 [0,10,40,90,160]from d9.Qm W [0,10,40,90,160] 3 Fd _ rfl) j0 Fd;rw[Xn]at h;exact h)
  have HF:b9 (Gq 5=4/\Ge 5=Er PM (cN 4)/\IE 5=true):=I ⟨rfl,rfl,rfl⟩;have HC:b9 (C7 W (W.alloc (QD #[U 0,U 10,U 40,U 90,U 160] 3))):=((C7.refl W).trans WU);go_in
  go_upto_region 2 with fail;rw[<-hW];clear hW;go_wp2_with fail;refine PP HM λw1 v ho hx=>?_;obtain⟨a1,n1,c1,rfl,HN⟩:=ho.var;have H':=HC.trans hx;have EU:=Hv H' DO.o;have H9:=Hv H' EB.o;have Q6:=HC.size;have Ml:=DW.o;have r0:=bI EU;have r1:=aH EU;have rf:=λj=>mo w1 w j _ _ EU
  have g0:=bI H9;have g1:=aH H9;have gf:=λj=>mo w1 (w+1) j _ _ H9
  have Ob:=I (fm (x:=4) H9 (A8.trans H') (b7 _) (ho.mono j0));have GK:=I (fm (x:=4) (W:=(w1.setCell (O (w+1) 0) (U 4)).setCell (O (w+1) 1) (GI a1 n1 c1)) (b:=w.heap.size) ((GE _ _ _ _ K5).trans ((GE _ _ _ _ K5).trans EU)) Ob.2.2.1 (i8 _) (Ob.2.2.2.mono (b7 _)));have⟨f0,f1,fx,fo⟩:=GK.o;have FX:=I fx;have FO:=I (fo.mono (b7 _));clear fx fo H' EU H9 ho Ml;go_wp2;refine Fn (v:=.agg #[U 4,GI a1 n1 c1]) pj rfl ⟨⟨_,by rw[HF.1];rfl,by rw[HF.2.1];exact FO⟩,FX⟩
 have e1:(k == 1)=false:=by simpa using h1
 have e2:(k == 2)=false:=by simpa using h2
 have e3:(k == 3)=false:=by simpa using Z
 have e4:(k == 4)=false:=by simpa using K
 have e5:(k == 5)=false:=by simpa using H
 have HF:=I (show Gq k=0/\Ge k=[]/\IE k=false by refine⟨?_,?_,Ok j0⟩<;>(first|unfold Gq|unfold Ge)<;>simp[h1,h2,Z,K,H]);have r0:=bI DO.o;have r1:=aH DO.o;have rf:=λj=>mo W w j _ _ DO.o
 have g0:=bI EB.o;have g1:=aH EB.o;have⟨f0,f1,fx,fo⟩:=fm (x:=0) (a:=none) (n:=0) (c:=0) (L:=[]) DO.o A8.o (i8 _) C1;have FX:=I fx;have FO:=I (fo.mono (b7 _));clear fx fo h1 h2 Z K H;go_in
 go_upto_region 2 with fail;rw[<-hW];clear hW;go_wp2;refine Fn (v:=.agg #[U 0,d6]) pj rfl ⟨⟨_,by rw[HF.1];rfl,by rw[HF.2.1];exact FO⟩,FX⟩
def WZ(k:Int):List UInt8:=ed (Gq k) (Ge k)
def zp:∀k:Fin 6,1<=k.val->ak (Gq (k.val:Int):Int) (Ge (k.val:Int))=true:=by
 intro k
 match k with
 | 0=>intro h;exact absurd h Fd
 | 1=>intro _;kernel_rfl
 | 2=>intro _;kernel_rfl
 | 3=>intro _;kernel_rfl
 | 4=>intro _;kernel_rfl
 | 5=>intro _;kernel_rfl
def vW(k:Int):(WZ k=[])↔IE k=false:=by
 unfold WZ ed;by_cases h:1<=k/\k<=5
 ·obtain⟨q,rfl⟩:∃q:Nat,k=q:=⟨k.toNat,by omega⟩;rw[f9 (zp ⟨q,by omega⟩ m9),show IE (q:Int)=true from UV h];unfold fp;simp
 have G:Gq k=0:=by unfold Gq;rw[f7 j0,f7 j0,f7 j0,f7 j0,f7 j0]
 rw[G,show IE k=false from Ok h,f7]
 ·simp
 intro hg;obtain⟨q,hq,h1,_⟩:=ap hg;omega
def P3(h:σ:=by
 have X3:=I (X2.trans hx);clear hx;go_wp2;go_ret;exact⟨rfl,X3⟩
 ):σ:=h
def vz(k:Int):f8 34 #[U k] w (aE (bs (WZ k))):=by
 refine t8 (uM (w:=w) k) (show WZ k=ed (Gq k) (Ge k)from rfl) (A2 k) λHA Z HV=>?_;have⟨T,G⟩:=e9 (WZ k);rw[<-G]at Z;rw[<-G];clear G;unfold f8;go_in
 go_wp2_with fail;refine PP HA λw1 v ho X2=>?_;obtain⟨a1,n1,p1,rfl,H⟩:=ho.var;have K:=I (om (p:=Gq k) ho.ints HV);rw[<-Z.o]at K;clear ho H;go_wp2_with fail;refine IR K λw3 hx=>?_;exact P3
def rE{α:Type}{l:List α}(h:l≠[]):0<JL l:=List.length_pos_iff.2 h
def dh(c:UInt8):Bool:=decide (48<=c.toNat/\c.toNat<=57)
def Ep(l:List UInt8):Nat:=l.foldl (λn c=>10*n+(c.toNat-48)) 0
def jE(l:List UInt8)(c:UInt8):Ep (l++[c])=10*Ep l+(c.toNat-48):=by unfold Ep;rw[Wr];rfl
def tP:∀l:List UInt8,l.all dh=true->Ep l<10^JL l:=by
 intro l
 induction hl:JL l generalizing l with
 | zero=>intro _;obtain rfl:=QX hl;decide
 | succ n ih =>
   intro h;obtain⟨m,c,rfl⟩:∃m c,l=m++[c]:=⟨l.dropLast,l.getLast sa,(TF _).symm⟩;rw[SW]at hl;rw[tn,eI]at h;have h1:=ih m YE h.1;have G:dh c=true:=by simpa using h.2
   unfold dh at G;have G:=uf G;rw[jE,Nat.pow_succ];omega
def Xt{c:UInt8}(h:dh c=true):UInt8.ofNat (48+(c.toNat-48))=c:=by
 unfold dh at h;have h:=uf h;rw[show 48+(c.toNat-48)=c.toNat by omega];exact UInt8.ofNat_toNat
def qP(l:List UInt8):Prop:=JL l=1∨l[0]?≠some 48
def Uw:∀{l:List UInt8},l.all dh=true->l≠[]->l[0]?≠some 48->1<=Ep l:=by
 intro l
 induction hl:JL l generalizing l with
 | zero=>intro _ h _;exact absurd (QX hl) h
 | succ n ih =>
   intro h _ H;obtain⟨m,c,rfl⟩:∃m c,l=m++[c]:=⟨l.dropLast,l.getLast sa,(TF _).symm⟩;rw[SW]at hl;rw[tn,eI]at h;rw[jE];by_cases hm:m=[]
   ·subst hm;have G:dh c=true:=by simpa using h.2
    unfold dh at G;have G:=uf G;have:c.toNat≠48:=λe=>H (by
     have:c=48:=Zm.1 (by rw[e];rfl)
     rw[this];rfl)
    omega
   have:=ih (l:=m) YE h.1 hm (by
    rw[tv (rE hm)]at H;exact H)
   omega
def sP:∀{l:List UInt8},l.all dh=true->l≠[]->qP l->Lib.decDigits (Ep l)=l:=by
 intro l
 induction hl:JL l generalizing l with
 | zero=>intro _ h _;exact absurd (QX hl) h
 | succ n ih =>
   intro h _ hc;obtain⟨m,c,rfl⟩:∃m c,l=m++[c]:=⟨l.dropLast,l.getLast sa,(TF _).symm⟩;rw[SW]at hl;rw[tn,eI]at h;have H:dh c=true:=by simpa using h.2
   have hb:=Xt H;unfold dh at H;have H:=uf H;rw[jE];by_cases hm:m=[]
   ·subst hm;rw[show Ep []=0 from rfl,Lib.decDigits,dif_pos j0];rw[show 48+(10*0+(c.toNat-48))=48+(c.toNat-48)by omega,hb];rfl
   have K:m[0]?≠some 48:=by
    rcases hc with G|G
    ·rw[SW,G2]at G;have:=rE hm;omega
    rw[tv (rE hm)]at G;exact G
   have hp:=Uw h.1 hm K;rw[Lib.decDigits,dif_neg j0,show(10*Ep m+(c.toNat-48))/10=Ep m by omega,show 48+(10*Ep m+(c.toNat-48)) % 10=48+(c.toNat-48)by omega,hb,ih (l:=m) YE h.1 hm (Ws K)]
def jt:∀n:Nat,qP (Lib.decDigits n)/\Lib.decDigits n≠[]
 | n=>by
   by_cases h:n<10
   ·rw[Lib.decDigits,dif_pos h];exact⟨xt rfl,by simp⟩
   rw[Lib.decDigits,dif_neg h];have H:=jt (n/10);have Ih:=rE H.2;refine⟨Ws ?_,by simp⟩;rw[tv Ih]
   rcases H.1 with G|G
   ·-- one digit: not a zero
    by_cases K:n/10<10
    ·rw[Lib.decDigits,dif_pos K];intro e;simp only[XT,bq]at e;have Z:=If UInt8.toNat e;rw[Q4]at Z;have:(48:UInt8).toNat=48:=rfl;omega
    rw[Lib.decDigits,dif_neg K,SW,G2]at G;have:=rE (jt (n/10/10)).2;omega
   exact G
def aD(l:List UInt8)(most:Nat):Int:=if(1<=JL l/\JL l<=most)/\(JL l<=1∨l[0]?≠some 48)/\l.all dh=true then(Ep l:Int) else -1
def di(l:List UInt8):Option Int :=
 if l[0]?=some 45 then(if 1<=aD (l.drop 1) 12 then some (-(aD (l.drop 1) 12)) else none) else if 0<=aD l 12 then some (aD l 12) else none
def gT(l:List UInt8)(most:Nat):Option Int :=
 if(1<=JL (if l[0]?=some 45 then l.drop 1 else l)/\JL (if l[0]?=some 45 then l.drop 1 else l)<=most)/\(if l[0]?=some 45 then l.drop 1 else l).all dh=true/\Lib.itoa (if l[0]?=some 45 then -(Ep (l.drop 1):Int) else(Ep l:Int))=l
 then some (if l[0]?=some 45 then -(Ep (l.drop 1):Int) else(Ep l:Int)) else none
def WK(h:l[0]?=some 45):l=45::l.drop 1:=by
 cases l with
 | nil=>cases h
 | cons c l=>simp only[XT,bq]at h;rw[h];rfl
def nK(n:Nat):(Lib.decDigits n)[0]?≠some 45:=by
 intro h;have G:∀m:Nat,∀c∈Lib.decDigits m,48<=c.toNat:=by
  intro m
  induction m using Nat.strongRecOn with
  | _ m ih =>
    intro c hc;by_cases h:m<10
    ·rw[Lib.decDigits,dif_pos h,Se]at hc;rw[hc,Q4];omega
    rw[Lib.decDigits,dif_neg h,Wn,Se]at hc;rcases hc with hc|hc
    ·exact ih (m/10) j0 c hc
    rw[hc,Q4];omega
 have:=G n 45 (RU h);exact absurd this Fd
def WO(h:σ:=by
 rcases this with h6|h6
 ·exact hc (xt j0)
 ·exact hc (Ws h6)
 ):σ:=h
def PL(h:σ:=by
 rw[hl]at h5;have:=nK (-(Ep t:Int)).toNat;rw[h5]at this;exact this rfl
 ):σ:=h
def Dd(l:List UInt8):gT l 12=di l:=by
 unfold gT di;by_cases hm:l[0]?=some 45
 ·simp only[f9 hm];have hl:=WK hm;have⟨t,ht⟩:=e9 (l.drop 1);rw[<-ht]at hl⊢;by_cases K:(1<=JL t/\JL t<=12)/\t.all dh=true
  ·obtain⟨⟨G,h2⟩,Z⟩:=K;have H:t≠[]:=λe=>by rw[e]at G;simp at G
   by_cases hc:JL t<=1∨t[0]?≠some 48
   ·have hr:aD t 12=(Ep t:Int):=by unfold aD;rw[f9 ⟨⟨G,h2⟩,hc,Z⟩]
    rw[hr];have WQ:qP t:=by
     rcases hc with hc|hc
     ·exact xt j0
     exact Ws hc
    by_cases h0:1<=Ep t
    ·have h6:Lib.itoa (-(Ep t:Int))=l:=by
      unfold Lib.itoa;rw[f9 j0,Int.natAbs_neg,Int.natAbs_natCast,sP Z H WQ,<-hl]
     rw[f9 (show(1:Int)<=(Ep t:Int)by omega),f9 ⟨⟨G,h2⟩,Z,h6⟩]
    rw[f7 (show¬(1:Int)<=(Ep t:Int)by omega),f7];rintro⟨_,_,h5⟩;unfold Lib.itoa at h5;rw[f7 j0]at h5;exact PL
   have hr:aD t 12=-1:=by unfold aD;rw[f7 (λh=>hc h.2.1)]
   rw[hr,f7 (show¬(1:Int)<=-1 by omega),f7];rintro⟨_,_,h5⟩;unfold Lib.itoa at h5;split at h5
   ·rw[Int.natAbs_neg,Int.natAbs_natCast,hl,List.cons.injEq]at h5;have:=(jt (Ep t)).1;rw[h5.2]at this;exact WO
   exact PL
  have hr:aD t 12=-1:=by unfold aD;rw[f7 (λh=>K ⟨h.1,h.2.2⟩)]
  rw[hr,f7 (show¬(1:Int)<=-1 by omega),f7 (λh=>K ⟨h.1,h.2.1⟩)]
 simp only[f7 hm];by_cases K:(1<=JL l/\JL l<=12)/\l.all dh=true
 ·obtain⟨⟨G,h2⟩,Z⟩:=K;have H:l≠[]:=λe=>by rw[e]at G;simp at G
  have hit:Lib.itoa (Ep l:Int)=Lib.decDigits (Ep l):=by unfold Lib.itoa;rw[f7 j0,gg]
  rw[hit];by_cases hc:JL l<=1∨l[0]?≠some 48
  ·have hr:aD l 12=(Ep l:Int):=by unfold aD;rw[f9 ⟨⟨G,h2⟩,hc,Z⟩]
   have WQ:qP l:=by
    rcases hc with hc|hc
    ·exact xt j0
    exact Ws hc
   rw[hr,f9 (show(0:Int)<=(Ep l:Int)by omega),f9 ⟨⟨G,h2⟩,Z,sP Z H WQ⟩]
  have hr:aD l 12=-1:=by unfold aD;rw[f7 (λh=>hc h.2.1)]
  rw[hr,f7 (show¬(0:Int)<=-1 by omega),f7];rintro⟨_,_,h5⟩;have:=(jt (Ep l)).1;rw[h5]at this;exact WO
 have hr:aD l 12=-1:=by unfold aD;rw[f7 (λh=>K ⟨h.1,h.2.2⟩)]
 rw[hr,f7 (show¬(0:Int)<=-1 by omega),f7 (λh=>K ⟨h.1,h.2.1⟩)]
def U9(l:List UInt8):(gT l 6).bind (λn=>if n<0 then none else some n)=if 0<=aD l 6 then some (aD l 6) else none:=by
 unfold gT;by_cases hm:l[0]?=some 45
 ·simp only[f9 hm];have hr:aD l 6=-1:=by
   unfold aD;rw[f7];rintro⟨_,_,G⟩;rw[WK hm,Zd,eI]at G;exact absurd G.1 Fd
  rw[hr,f7 (show¬(0:Int)<=-1 by omega)];split
  ·next h =>
   rw[mr];by_cases h0:-(Ep (l.drop 1):Int)<0
   ·rw[f9 h0]
   exfalso;have H:=h.2.2;unfold Lib.itoa at H;rw[f7 h0]at H;have:=nK (-(Ep (l.drop 1):Int)).toNat;rw[H]at this;exact this hm
  rfl
 simp only[f7 hm];by_cases hd:(1<=JL l/\JL l<=6)/\l.all dh=true
 ·obtain⟨⟨K,h2⟩,G⟩:=hd;have Z:l≠[]:=λe=>by rw[e]at K;simp at K
  have hit:Lib.itoa (Ep l:Int)=Lib.decDigits (Ep l):=by unfold Lib.itoa;rw[f7 j0,gg]
  rw[hit];by_cases hc:JL l<=1∨l[0]?≠some 48
  ·have hr:aD l 6=(Ep l:Int):=by unfold aD;rw[f9 ⟨⟨K,h2⟩,hc,G⟩]
   have WQ:qP l:=by
    rcases hc with hc|hc
    ·exact xt j0
    exact Ws hc
   rw[hr,f9 (show(0:Int)<=(Ep l:Int)by omega),f9 ⟨⟨K,h2⟩,G,sP G Z WQ⟩,mr,f7 j0]
  have hr:aD l 6=-1:=by unfold aD;rw[f7 (λh=>hc h.2.1)]
  rw[hr,f7 (show¬(0:Int)<=-1 by omega),f7]
  ·rfl
  rintro⟨_,_,H⟩;have:=(jt (Ep l)).1;rw[H]at this;exact WO
 have hr:aD l 6=-1:=by unfold aD;rw[f7 (λh=>hd ⟨h.1,h.2.2⟩)]
 rw[hr,f7 (show¬(0:Int)<=-1 by omega),f7 (λh=>hd ⟨h.1,h.2.1⟩)];rfl
def Fk(c:UInt8)(l:List UInt8):Nat->List (List UInt8)×Nat
 | 0=>([],0)
 | i+1=>if l[i]?.getD 0=c then((Fk c l i).1++[(l.take i).drop (Fk c l i).2],i+1) else Fk c l i
def DR(c:UInt8)(l:List UInt8):List (List UInt8):=(Fk c l (JL l)).1++[l.drop (Fk c l (JL l)).2]
def oQ(c:UInt8)(l:List UInt8):∀i,(Fk c l i).2<=i/\(Fk c l i).1.length<=i
 | 0=>⟨i8 _,i8 _⟩
 | i+1=>by
   have ih:=oQ c l i;unfold Fk
   split
   ·refine⟨i8 _,?_⟩;rw[SW,G2];omega
   omega
def ip(c:UInt8)(l:List UInt8):1<=JL (DR c l):=by unfold DR;rw[SW,G2];omega
def ox{c:UInt8}{l:List UInt8}:∀i,i<=JL l->(∀k,k<i->l[k]?.getD 0≠c)->Fk c l i=([],0)
 | 0,_,_=>rfl
 | i+1,hi,h=>by
   unfold Fk;rw[f7 (h i j0)];exact ox i j0 λk hk=>h k j0
def qF{c:UInt8}(h:c∉l):DR c l=[l]:=by
 unfold DR;rw[ox l.length (i8 _) λk G e=>h (by rw[<-e,Id G,Nm];exact eN G)]
 rfl
def ye{c:UInt8}{a b:List UInt8}(h:c∉a):∀j,j<=JL b->Fk c (a++c::b) (JL a+1+j)=(a::(Fk c b j).1,JL a+1+(Fk c b j).2)
 | 0,_=>by
   have K:Fk c (a++c::b) (JL a)=([],0):=ox (JL a) (by rw[SW];omega) λk G e=>h (by
    rw[tv G,Id G,Nm]at e
    rw[<-e];exact eN G)
   show Fk c (a++c::b) (JL a+1)=_;unfold Fk;rw[f9 (by rw[Sl (i8 _)];simp),K];simp
 | j+1,hj=>by
   have H:=ye (a:=a) (b:=b) h j j0;rw[show a.length+1+(j+1)=(a.length+1+j)+1 by omega];unfold Fk;have e:(a++c::b)[JL a+1+j]?.getD 0=b[j]?.getD 0:=by
    rw[Sl j0,show a.length+1+j-a.length=j+1 by omega,SB]
   rw[e,H];by_cases hc:b[j]?.getD 0=c
   ·rw[f9 hc,f9 hc];have Z:((a++c::b).take (JL a+1+j)).drop (JL a+1+(Fk c b j).2)=(b.take j).drop (Fk c b j).2:=by
     rw[show a.length+1+j=a.length+(1+j)by omega,List.take_length_add_append,show JL a+1+(Fk c b j).2=JL a+(1+(Fk c b j).2)by omega,S9,show 1+j=j+1 by omega,List.take_succ_cons,show 1+(Fk c b j).2=(Fk c b j).2+1 by omega,List.drop_succ_cons]
    simp only;rw[Z,show a.length+1+(j+1)=a.length+1+j+1 by omega];rfl
   rw[f7 hc,f7 hc]
def mR{c:UInt8}{a b:List UInt8}(h:c∉a):DR c (a++c::b)=a::DR c b:=by
 unfold DR;have G:JL (a++c::b)=JL a+1+JL b:=by rw[SW,nR];omega
 rw[G,ye h b.length (i8 _)];simp only[V6,List.cons.injEq,aF];rw[show a.length+1+(Fk c b b.length).2=a.length+((Fk c b b.length).2+1)by omega,S9,List.drop_succ_cons]
def iq{c:UInt8}:∀{l:List UInt8},c∈l->∃a b,l=a++c::b/\c∉a
 | [],h=>by cases h
 | x::l,h=>by
   by_cases e:x=c
   ·exact⟨[],l,by rw[e];rfl,by simp⟩
   have H:c∈l:=by
    rcases SU.1 h with h|h
    ·exact absurd h.symm e
    exact h
   have⟨a,b,Z,K⟩:=iq H;refine⟨x::a,b,by rw[Z];rfl,λG=>?_⟩
   rcases SU.1 G with G|G
   ·exact e G.symm
   exact K G
def UQ:List UInt8:=[112,108,97,121,101,114,115]
def yJ{m:Nat}(h:0<=aD l m):(32:UInt8)∉l:=λhm=>by
 unfold aD at h
 split at h
 ·next g=>exact absurd (gy.1 g.2.2 32 hm) Fd
 omega
end
section
variable{s n k base' base bytes:Nat}{α:Type}{w w':J}{a:l9}{v:arQ}{d:Int}
def Ja(t:List UInt8):Option Nat:=(List.range 32).find? λs=>decide (bJ (s:Int)=t)
def zK{t:List UInt8}(h:Ja t=some s):s<32:=sj.1 (List.mem_of_find?_eq_some h)
structure mg(α:Type) where
 enc:α->List arQ
 c:Nat
 hc:∀x,(enc x).length=c
 pos:0<c
 one:∀x,∀u∈enc x,u.oneCell'=true
def mg.all{α:Type}(E:mg α)(l:List α):List arQ:=l.flatMap E.enc
def mg.all_append(E:mg α)(l G:List α):E.all (l++G)=E.all l++E.all G:=by simp[mg.all]
def mg.all_cons(E:mg α)(x:α)(l:List α):E.all (x::l)=E.enc x++E.all l:=by simp[mg.all]
def mg.JY(E:mg α):∀l:List α,JL (E.all l)=JL l*E.c
 | []=>by simp[mg.all]
 | x::l=>by rw[E.all_cons,SW,E.hc,E.JY l,nR,QO,QA]
def mg.R0(E:mg α):∀{l:List α} {k j:Nat} {x:α} {v:arQ},l[k]?=some x->(E.enc x)[j]?=some v->(E.all l)[k*E.c+j]?=some v
 | [],k,j,x,v,h,_=>by simp at h
 | y::l,0,j,x,v,h,hj=>by
   simp only[XT,bq]at h;subst h;have G:=(O2.1 hj).1;rw[E.all_cons,Nat.zero_mul,hI,tv G,hj]
 | y::l,k+1,j,x,v,h,hj=>by
   simp only[SB]at h;rw[E.all_cons,Sl (by rw[E.hc,QO];omega),E.hc];rw[show(k+1)*E.c+j-E.c=k*E.c+j by rw[QO];omega];exact E.R0 h hj
def mg.aa7(E:mg α)(l:List α):∀u∈E.all l,u.oneCell'=true:=by
 intro u G;obtain⟨x,_,hx⟩:=Zg.1 G;exact E.one x u hx
def mg.split(E:mg α){l:List α}{i:Nat}{u:arQ}(h:(E.all l)[i]?=some u):∃k j x,i=k*E.c+j/\l[k]?=some x/\(E.enc x)[j]?=some u:=by
 have hi:i<JL l*E.c:=by have:=(O2.1 h).1;rwa [E.JY]at this
 have G:=E.pos;have H:i/E.c<JL l:=(Nat.div_lt_iff_lt_mul G).2 hi;have hm:i % E.c<E.c:=Nat.mod_lt _ G;have Z:i=i/E.c*E.c+i % E.c:=by rw[X0];exact(Nat.div_add_mod i E.c).symm
 refine⟨i/E.c,i % E.c,l[i/E.c],Z,Id H,?_⟩;have K:i % E.c<JL (E.enc l[i/E.c]):=by rw[E.hc];exact hm
 have:=E.R0 (Id H) (Id K);rw[<-Z,h]at this;rw[Id K,this]
structure GL{α:Type}(E:mg α)(w:J)(a:l9)(n cap:Nat)(l:List α):Prop where
 hlen:l.length=n
 r8:n<=cap
 r9:cap<=9223372036854775807
 cell:∀k,k<n->∃b off,a=some (O b off)/\∀k x j v,l[k]?=some x->(E.enc x)[j]?=some v->w.cell? (O b (off+k*E.c+j))=some v
def GL.aq9{α:Type}{E:mg α}{w:J}{a:l9}{n cap:Nat}{l:List α}(h:GL E w a n cap l):n<=cap/\cap<=9223372036854775807:=⟨h.r8,h.r9⟩
def GL.ext{E:mg α}{cap:Nat}{l:List α}(h:GL E w a n cap l)(hx:C7 w w'):GL E w' a n cap l :=
 ⟨h.hlen,h.r8,h.r9,λk G=>let⟨b,off,e,hc⟩:=h.cell k G;⟨b,off,e,λk x j v K H=>hx.o6 (hc k x j v K H)⟩⟩
def GL.at{E:mg α}{cap:Nat}{l:List α}(h:GL E w a n cap l)(H:k<n):
 ∃b off x,a=some (O b off)/\l[k]?=some x/\∀j v,(E.enc x)[j]?=some v->w.cell? (O b (off+k*E.c+j))=some v :=
 let⟨b,off,e,hc⟩:=h.cell k H
 have G:k<JL l:=by rw[h.hlen];exact H
 ⟨b,off,l[k],e,Id G,λj v K=>hc k _ j v (Id G) K⟩
def fQ{l:List α}{x:α}(h:l[k]?=some x):l.take (k+1)=l.take k++[x]:=by
 obtain⟨G,rfl⟩:=O2.1 h;rw[xl G]
def A5{α:Type}(E:mg α)(t:TypeId)(w:J)(base:Nat)(v:arQ)(l:List α):Prop:=w.ownsRow base t E.c v (JL l) (E.all l)
section
variable{α:Type}{E:mg α}{t:TypeId}{w:J}{base:Nat}{l:List α}
def A5.form{v:arQ}(h:A5 E t w base v l):∃a cap,v=GI a (JL l) cap/\JL l<=cap/\cap<=9223372036854775807:=by
 exact j'
def A5.var{v:arQ}(h:A5 E t w base v l):∃a n cap,v=GI a n cap/\b9 (JL l=n):=by
 obtain⟨a,cap,e,_⟩:=h.form;exact⟨a,_,cap,e,rfl⟩
def A5.Hr{a:l9}{n cap:Nat}(h:A5 E t w base (GI a n cap) l):GL E w a n cap l:=by
 rcases h.2 with⟨he,h0⟩|⟨g,cap',G,he,_,hg,h1,Z,hs,K⟩
 ·exact TR
 simp only[nP]at he;obtain⟨rfl,rfl,rfl⟩:=he;refine⟨rfl,h1,by simpa[maxLen]using Z,λk hk=>⟨g,0,rfl,λk x j v hx H=>?_⟩⟩;rw[hI,aR w g _ G _ (0,0) hg];have q:=E.R0 hx H;rw[<-K,XD]at q;split at q
 ·simpa using q
 cases q
def A5.lt{v:arQ}(h:A5 E t w base v l):∀k,v.ownBlock=some k->base<=k/\k<w.heap.size:=YB h
def A5.keep{w':J}{v:arQ}(h:A5 E t w base v l)(hk:∀k,v.ownBlock=some k->w'.heap[k]?=w.heap[k]?):A5 E t w' base v l:=by
 exact VO
def A5.ext{w':J}{v:arQ}(h:A5 E t w base v l)(hx:C7 w w'):A5 E t w' base v l:=h.keep λk G=>hx.block k (h.lt k G).2
def A5.mono{base':Nat}{v:arQ}(h:A5 E t w base v l)(hb:base'<=base):A5 E t w base' v l:=by
 exact Wf
def A5.nil(E:mg α)(t:TypeId)(w:J)(base:Nat):A5 E t w base d6 []:=WD w base t _
def A5.block{a:l9}{n cap:Nat}(h:A5 E t w base (GI a n cap) l){k:Nat}(hk:k<n):∃g,a=some (O g 0)/\base<=g/\(∀j,w.frozen? (O g j)=false)/\g<w.heap.size:=by
 exact WE
def A5.D2(E:mg α)(t:TypeId)(W:J)(base:Nat)(n:Nat)(G:n=W.heap.size)(hb:base<=W.heap.size):A5 E t (W.alloc (QD #[] t)) base (EQ n 0 0) []:=by
 subst G;exact wA W #[] 0 hb j0 j7
def A5.lit(E:mg α)(t:TypeId)(W:J)(base:Nat)(l:List α)(H:Array arQ)(G:H=(E.all l).toArray)(n:Nat)(K:n=W.heap.size)(hb:base<=W.heap.size)(hm:JL l<=1099511627776):A5 E t (W.alloc (QD H t)) base (EQ n (JL l) (JL l)) l:=by
 subst K G;refine⟨E.JY l,.inr ⟨_,JL l,(E.all l).toArray,rfl,hb,vC W _,i8 _,by simp[maxLen];omega,by simp[E.JY],?_⟩⟩
 show List.take _ (E.all l)=_;exact bR (by rw[E.JY];exact i8 _)
def aL{w:J}{base base':Nat}{e e':TypeId}{s s':Nat}{v v':arQ}{n n':Nat}{xs G:List arQ}(H:e≠e')(h:w.ownsRow base e s v n xs)(h':w.ownsRow base' e' s' v' n' G):∀k,v.ownBlock=some k->v'.ownBlock≠some k:=by
 intro k K Z;rcases h.2 with⟨rfl,_⟩|⟨g,cap,cur,rfl,_,hg,_⟩
 ·simp[Value.ownBlock]at K
 rcases h'.2 with⟨rfl,_⟩|⟨g',cap',cur',rfl,_,Ra,_⟩
 ·simp[Value.ownBlock]at Z
 simp only[Value.ownBlock,bq]at K Z;subst K Z;rw[hg]at Ra;simp only[bq,Y1]at Ra;exact H Ra.2.1
def aq{w:J}{base g:Nat}{e e':TypeId}{s:Nat}{v:arQ}{n:Nat}{K:List arQ}{c:Array arQ}{z:Nat×Nat}(h:w.ownsRow base e s v n K)(hb:w.heap[g]?=some (QD c e' z))(G:e≠e'):some g≠v.ownBlock:=by
 intro H;rcases h.2 with⟨rfl,_⟩|⟨g',cap,cur,rfl,_,hg,_⟩
 ·simp[Value.ownBlock]at H
 simp only[Value.ownBlock,bq]at H;subst H;rw[hg]at hb;simp only[bq,Y1]at hb;exact G hb.2.1
def GL.lit(E:mg α)(t:TypeId)(W:J)(l:List α)(m:Nat)(hm:JL l=m)(H:Array arQ)(G:H=(E.all l).toArray)(n:Nat)(K:n=W.heap.size)(hb:m<=1099511627776):GL E (W.alloc (QD H t)) (some (O n 0)) m m l:=by
 subst hm;exact(A5.lit E t W 0 l H G n K (gi _) hb).Hr
end
section
variable{α:Type}{E:mg α}{t:TypeId}{P:Program}{w:J}{ops:Array Oper}{rest:List Oper}{o:Oper}{a:Act}{Q:Exit->Act->J->Prop}
def ib{K:Act->J->Prop}{ts:TypeId}{z:arQ}{bytes:Nat}(E:mg α)(JI:(P.info? t).map (λi=>(i.zero,i.size,i.bytes))=some (some z,E.c,bytes))(hz:z.cells.size=E.c)(ht:P.underlying ts=some (.slice t))(hby:bytes<=64)
 (s x:Operand) (ho:o.op=.call { callee:=.builtin .append,args:=#[s,x],argTypes:=#[ts,ts] })
 (base:Nat) (v:arQ) (l:List α) (hs:a.eval s=v) (Fm:A5 E t w base v l) (ao:l9) (m c:Nat) (Z:List α) (hx:a.eval x=GI ao m c) (Ho:GL E w ao m c Z) (hb:JL l+m<=1099511627776) (G:base<=w.heap.size)
 (h:∀H w',A5 E t w' base H (l++Z)->w.grownBy w' v.ownBlock->Hx w v H->K (a.put o.dst H) w'):o.wp P a w K Q:=by
 obtain⟨i,hi,F8,Li,J6⟩:∃i,P.info? t=some i/\i.zero=some z/\i.size=E.c/\i.bytes=bytes:=by
  cases hq:P.info? t with
  | none=>rw[hq]at JI;simp at JI
  | some i=>rw[hq]at JI;simp at JI;exact⟨i,rfl,JI.1,JI.2.1,JI.2.2⟩
 cases ao with
 | none =>
   have hm:m=0:=by
    exact sv
   subst hm;have hl:Z=[]:=QX Ho.hlen;subst hl;refine gX w s x ts ho base t i E.c ht hi v (JL l) _ hs Fm c hx ?_;exact h v w (by simpa using Fm) (Ua _ _) (Hx.refl _ _)
 | some ad =>
   refine fI w s x ts ho base t i z E.c bytes ht hi F8 Li J6 hz E.pos v (JL l) (E.all l) hs Fm ad m c (E.all Z) hx (by rw[E.JY,Ho.hlen]) ?_ (E.aa7 Z) YZ (k8 (EE hb hby)) G ?_
   ·intro i u hu;have⟨k,j,y,he,hk,hj⟩:=E.split hu;have Fe:k<m:=by rw[<-Ho.hlen];exact(O2.1 hk).1
    have⟨b,off,e,hc⟩:=Ho.cell k Fe;simp only[bq]at e;subst e;have ha:∀k,((O b off):Addr).add k=(O b (off+k)):=λk=>by unfold Addr.add;split<;>simp_all
    rw[ha,he,<-Nat.add_assoc];exact hc k y j u hk hj
   intro H w' h1 h2 h3;refine h H w' ?_ h2 h3;unfold A5;rw[SW,Ho.hlen,E.all_append];exact h1
def dJ{ts:TypeId}{z:arQ}{bytes:Nat}(E:mg α)(JI:(P.info? t).map (λi=>(i.zero,i.size,i.bytes))=some (some z,E.c,bytes))(hz:z.cells.size=E.c)(ht:P.underlying ts=some (.slice t))(Z:bytes<=64)(NH:o.guard=none)
 (s x:Operand) (ho:o.op=.call { callee:=.builtin .append,args:=#[s,x],argTypes:=#[ts,ts] })
 (base:Nat) (v:arQ) (l:List α) (hs:a.eval s=v) (Fm:A5 E t w base v l) (ao:l9) (m c:Nat) (K:List α) (hx:a.eval x=GI ao m c) (Ho:GL E w ao m c K) (hb:JL l+m<=1099511627776) (G:base<=w.heap.size)
 (h:∀H w',A5 E t w' base H (l++K)->w.grownBy w' v.ownBlock->Hx w v H->wpList P ops Q rest (a.put o.dst H) w'):wpList P ops Q (o::rest) a w :=
 Sq NH λ_ hK=>ib E JI hz ht Z s x ho base v l hs Fm ao m c K hx Ho hb G λH w' h1 h2 h3=>hK _ _ (h H w' h1 h2 h3)
end
def gI(a b:Int):Int:=(Int.gcd a b:Int)
def zu(a b:Int):gI b (a.tmod b)=gI a b:=by
 unfold gI Int.gcd;rw[Q7,Nat.gcd_comm b.natAbs,<-Nat.gcd_rec,Nat.gcd_comm]
def sS(a:Int):gI a 0=(a.natAbs:Int):=by simp[gI]
def ke(a b:Int):gI (-a) b=gI a b:=by simp[gI,Int.gcd]
def oL(a b:Int):gI a (-b)=gI a b:=by simp[gI,Int.gcd]
def nO(a:Int){b:Int}(h:b≠0):1<=gI a b:=by
 unfold gI;have:0<Int.gcd a b:=Int.gcd_pos_of_ne_zero_right a h;omega
def ud(a b:Int):0<=gI a b:=by unfold gI;omega
def SL(a:Int){b:Int}(h:b≠0):gI a b<=b.natAbs:=by
 unfold gI Int.gcd
 exact_mod_cast Nat.gcd_le_right _ j0
def sR(a b:Int):gI a b∣a:=Int.gcd_dvd_left ..
def oK(a b:Int):gI a b∣b:=Int.gcd_dvd_right ..
def z7(p:o4):Bool:=A4 p.2 1 1000000000&&(A4 p.1 (-1000000000) 1000000000&&decide (gI p.1 p.2=1))
def aU{p:o4}(h:z7 p=true):1<=p.2/\p.2<=1000000000/\-1000000000<=p.1/\p.1<=1000000000:=by
 simp only[z7,A4,eI,ef]at h;omega
def kL(x y:Int):z7 (-x,y)=z7 (x,y):=by
 have G:A4 (-x) (-1000000000) 1000000000=A4 x (-1000000000) 1000000000:=by
  unfold A4;have K:decide (-1000000000<=-x)=decide (x<=1000000000):=by by_cases h:x<=1000000000<;>simp[h]<;>omega
  have H:decide (-x<=1000000000)=decide (-1000000000<=x):=by by_cases h:-1000000000<=x<;>simp[h]<;>omega
  rw[K,H,Zr]
 simp only[z7,ke,G]
def Gk(p:o4):(Int×Int)×Bool:=if z7 p=true then(p,true) else((0,0),false)
def aN(n d:Int):(Int×Int)×Bool :=
 if d=0∨A4 n (-1000000000000000000) 1000000000000000000=false∨A4 d (-1000000000000000000) 1000000000000000000=false then((0,0),false)
 else if d<0 then Gk (n.tdiv (-gI n d),d.tdiv (-gI n d)) else Gk (n.tdiv (gI n d),d.tdiv (gI n d))
def vR{p:o4}(h:(Gk p).2=true):z7 (Gk p).1=true:=by
 unfold Gk at h⊢;split at h
 ·next h1=>rw[f9 h1];exact h1
 simp at h
def jy{n:Int}(h:(aN n d).2=true):z7 (aN n d).1=true:=by
 unfold aN at h⊢;split at h
 ·simp at h
 next h1 =>
 rw[f7 h1];split at h
 ·next h2=>rw[f9 h2];exact vR h
 next h2=>rw[f7 h2];exact vR h
def Vd{n:Int}(h:(aN n d).2=false):(aN n d).1=(0,0):=by
 unfold aN Gk at h⊢;split at h
 ·next h1=>rw[f9 h1]
 next h1 =>
 rw[f7 h1];split at h
 ·next h2 =>
  rw[f9 h2];split at h
  ·simp at h
  next h3=>rw[f7 h3]
 next h2 =>
 rw[f7 h2];split at h
 ·simp at h
 next h3=>rw[f7 h3]
def nN(n d:Int)(hd:0<d):gI (n.tdiv (gI n d)) (d.tdiv (gI n d))=1:=by
 have hg:=nO n (show d≠0 by omega);have⟨k,G⟩:=sR n d;have⟨m,hm⟩:=oK n d;have h1:n.tdiv (gI n d)=k:=by
    conv=>lhs;arg 1;rw[G]
    exact Yj _ j0
 have h2:d.tdiv (gI n d)=m:=by
    conv=>lhs;arg 1;rw[hm]
    exact Yj _ j0
 rw[h1,h2];have Z:gI (gI n d*k) (gI n d*m)=gI n d:=by rw[<-G,<-hm]
 have K:gI (gI n d*k) (gI n d*m)=gI n d*gI k m:=by
  show((Int.gcd _ _:Nat):Int)=_;rw[Int.gcd_mul_left];have:((gI n d).natAbs:Int)=gI n d:=j0;rw[UP,this];rfl
 rw[Z]at K;have H:gI n d*1=gI n d*gI k m:=j0;have:=Int.eq_of_mul_eq_mul_left j0 H;omega
def qI(n g:Int)(hg:1<=g):(n.tdiv g).natAbs<=n.natAbs:=by
 rw[Uj];exact Yr _ _
def Jx(h:σ:=by
 have:gI n d*m<=0:=Int.mul_nonpos_of_nonneg_of_nonpos j0 h;omega
 ):σ:=h
def Vc{n:Int}(hd:1<=d)(hd':d<=1000000000)(h:-1000000000<=n)(h':n<=1000000000):(aN n d).2=true:=by
 have hg:=nO n (show d≠0 by omega);have JK:=SL n (show d≠0 by omega);unfold aN;rw[f7 (by simp[A4];omega),f7 j0];unfold Gk;have h1:=qI n (gI n d) hg;have G:=qI d (gI n d) hg;have h3:1<=d.tdiv (gI n d):=by
  have⟨m,hm⟩:=oK n d;have G:d.tdiv (gI n d)=m:=by
     conv=>lhs;arg 1;rw[hm]
     exact Yj _ j0
  rw[G];rcases VC 0 m with h|h
  ·omega
  exact Jx
 rw[f9];simp only[z7,A4,nN n d j0,eI,ef,E5];omega
def Ev(a b:o4):(Int×Int)×Bool:=if(z7 a&&z7 b)=true then aN (a.1*b.2+b.1*a.2) (a.2*b.2) else((0,0),false)
def D9(a b:o4):(Int×Int)×Bool:=if(z7 a&&z7 b)=true then aN (a.1*b.2-b.1*a.2) (a.2*b.2) else((0,0),false)
def cM(a b:o4):(Int×Int)×Bool:=if(z7 a&&z7 b)=true then aN (a.1*b.1) (a.2*b.2) else((0,0),false)
def F1(a b:o4):(Int×Int)×Bool:=if(z7 a&&z7 b)=true then aN (a.1*b.2) (a.2*b.1) else((0,0),false)
def DM(a b:o4):Int:=if(z7 a&&z7 b)=true then(if a.1*b.2<b.1*a.2 then -1 else if b.1*a.2<a.1*b.2 then 1 else 0) else 0
def yi(a b:o4):Ev a (-b.1,b.2)=D9 a b:=by
 unfold Ev D9;rw[kL,Int.neg_mul,<-Int.sub_eq_add_neg]
def Vv{x y:Int}(h1:-1000000000<=x)(h2:x<=1000000000)(h3:-1000000000<=y)(h4:y<=1000000000):-1000000000000000000<=x*y/\x*y<=1000000000000000000:=by
 have hx:x.natAbs<=1000000000:=j0;have G:y.natAbs<=1000000000:=j0;have h:(x*y).natAbs<=1000000000*1000000000:=by
  rw[WR];exact EE hx G
 omega
def A9:mg (List UInt8):=⟨λl=>[aE (bs l)],1,λ_=>rfl,by decide,λx u hu=>by rw[Se.1 hu];rfl⟩
def PN:mg UInt8:=⟨λc=>[.int .u8 (c.toNat:Int)],1,λ_=>rfl,by decide,λx u hu=>by rw[Se.1 hu];rfl⟩
def vK(l:List UInt8)(a b:Nat):(bs l).extract a b=bs ((l.take b).drop a):=by
 unfold bs;apply ByteArray.ext;simp[ByteArray.data_extract,List.drop_take]
def XN(l:List UInt8)(a:Nat):(bs l).extract a (bs l).size=bs (l.drop a):=by
 rw[vK,aY,cT]
def qO{l:List UInt8}{i:Nat}(h:i<(bs l).size):(bs l)[i]=l[i]?.getD 0:=by
 rw[aY]at h;rw[Id h];rfl
def uY{l:List UInt8}{m:Nat}(G:(l.take k).all dh=true)(hk:k<=m)(hm:m<=12):Ep (l.take k)<1000000000000:=by
 have h:=tP _ G;have H:JL (l.take k)<=12:=by rw[k6];omega
 have h3:10^JL (l.take k)<=10^12:=W7 Fd H;omega
def D'(r:o4):List UInt8:=if z7 r=true then(if r.2=1 then Lib.itoa r.1 else Lib.itoa r.1++([47]++Lib.itoa r.2)) else []
def qt(r:o4):JL (D' r)<=50:=by
 unfold D';split
 ·next h =>
  unfold z7 A4 at h;simp only[eI,ef]at h;have h1:=Yv r.1 j0 j0;have h2:=Yv r.2 j0 j0;split
  ·omega
  simp only[SW,nR,Pb];omega
 simp
def Qi(l:l7):List UInt8:=Lib.join (l.map D') [32]
def Cz{L:List (List UInt8)}{x s:List UInt8}(h:L≠[]):Lib.join (L++[x]) s=Lib.join L s++s++x:=by
 cases L with
 | nil=>exact absurd rfl h
 | cons y r =>
   rw[V6,QP,QP];unfold Lib.joinTail;simp
def ms{L:List (List UInt8)}{m:Nat}(h:∀x∈L,JL x<=m):JL (Lib.join L [32])<=JL L*(m+1):=by
 cases L with
 | nil=>simp[Lib.join_nil]
 | cons y r =>
   rw[QP,SW];have hr:∀q:List (List UInt8),(∀x∈q,JL x<=m)->JL (Lib.joinTail [32] q)<=JL q*(m+1):=by
    intro q
    induction q with
    | nil=>intro _;simp[Lib.joinTail]
    | cons z q ih =>
      intro H;have G:=ih λx hx=>H x (B1 _ hx)
      have K:=H z o2;unfold Lib.joinTail at G⊢;simp only[Ti,JI,SW,nR,Pb]at G⊢;rw[QO];omega
   have G:=hr r λx hx=>h x (B1 _ hx)
   have K:=h y o2;rw[nR,QO];omega
def yw{l:l7}:JL (Qi l)<=JL l*51:=by
 have:=ms (L:=l.map D') (m:=50) (λx hx=>by obtain⟨r,_,rfl⟩:=C'.1 hx;exact qt r);rw[dc]at this;exact this
def ij(c:Int):List UInt8:=if c=0 then [98,97,100] else if c=1 then [112,111,105,110,116] else if c=2 then [101,109,112,116,121] else if c=3 then [108,105,109,105,116] else [63]
end
section
variable{l:List UInt8}{k:Nat}{w:J}
def xr(H:k<32)(h:bJ (k:Int)=l)(G:∀s:Nat,s<k->bJ (s:Int)≠l):Ja l=some k:=by
 unfold Ja;rw[List.find?_range_eq_some];refine⟨by simpa using h,sj.2 H,λj K=>by simpa using G j K⟩
def uz(G:∀s:Nat,s<32->bJ (s:Int)≠l):Ja l=none:=by
 unfold Ja;rw[Wb];intro x hx
 simpa using G x (sj.1 hx)
def Ou(h:σ:=by
 have⟨t,ht⟩:=e9 (bs l);have HT:=I ht;have⟨R,hR⟩:=e9 (Ja l);have Fv:=I hR;rw[<-ht,<-hR];clear ht hR;(try unfold f8);go_in
 go_wp2
 go_loopg [4] 32 (λgk ss wr=>∃(k:Nat),b9 (gk+k=32)/\ss=U k/\b9 (∀s:Nat,s<k->bJ (s:Int)≠l)/\b9 (C7 w wr))
 ·exact⟨0,I rfl,rfl,I (λs hs=>absurd hs j0),I WF⟩
 case round =>
  have⟨g1,y8⟩:=e9 gk;subst y8;have⟨wr,Em⟩:=e9 wr;subst Em;obtain⟨k,HK,rfl,HN,HX⟩:=hrel;by_cases hk:k<32
  ·have HF:=I (qq0 (w:=wr) k hk);by_cases hc:bJ (k:Int)=l
   ·obtain rfl:=(show R=some k from Fv.trans (xr hk hc HN));have hne:((bs (bJ (k:Int))).toList == t.toList)=true:=by rw[HT.o,cY,cY,hc];simp
    have⟨tz,Qt⟩:=e9 (bs (bJ (k:Int)));rw[<-Qt]at hne HF;clear Qt hc;go_wp2_with fail;refine HF.mono ?_;rintro e w1 ⟨rfl,hx⟩;have A0:=I (HX.trans hx);clear hx;go_wp2;go_ret2;exact⟨rfl,A0⟩
   have hne:((bs (bJ (k:Int))).toList == t.toList)=false:=by rw[HT.o,cY,cY];simpa using hc
   have HN1:=I (show∀s:Nat,s<k+1->bJ (s:Int)≠l by
    intro s hs;rcases Nat.lt_succ_iff_lt_or_eq.1 hs with h|h
    ·exact HN.o s h
    subst h;exact hc)
   have⟨tz,Qt⟩:=e9 (bs (bJ (k:Int)));rw[<-Qt]at hne HF;clear Qt hc;go_wp2_with fail;refine HF.mono ?_;rintro e w1 ⟨rfl,hx⟩;have A0:=I (HX.trans hx);clear hx;go_wp2_with fail;refine kf ?_;exact⟨k+1,I (k8 HK.o),by go_num,HN1,A0⟩
  have e32:k=32:=by have:=HK.o;omega
  obtain rfl:=(show R=none from Fv.trans (uz (by rw[<-e32];exact HN)));clear e32;go_wp2;go_ret2;exact⟨rfl,HX⟩
 ):σ:=h
def qk(l:List UInt8):f8 80 #[aE (bs l)] w (.tuple #[U (((Ja l).getD 0:Nat):Int),bl (Ja l).isSome]):=by
 have qq0:=@gV;exact Ou
def qA(l:List UInt8):f8 36 #[aE (bs l)] w (.tuple #[U (((Ja l).getD 0:Nat):Int),bl (Ja l).isSome]):=by
 have qq0:=@gW;exact Ou
def Tryz.EZ:(prog.info? 9).map (λi=>(i.zero,i.size,i.bytes))=some (some (aE ⟨#[]⟩),A9.c,16):=by kernel_rfl
def zZ{c:UInt8}(h:l[k]?.getD 0=c):Fk c l (k+1)=((Fk c l k).1++[(l.take k).drop (Fk c l k).2],k+1):=by rw[Fk,f9 h]
def yg{c:UInt8}(h:l[k]?.getD 0≠c):Fk c l (k+1)=Fk c l k:=by rw[Fk,f7 h]
def jh(l:List UInt8)(c:UInt8)(hl:JL l<=1099511627700):
 Calls prog 11 #[aE (bs l),.int .u8 (c.toNat:Int)] w λe w'=>∃v,e=ar v/\A5 A9 9 w' w v (DR c l)/\C7 w w':=by
 have⟨t,K⟩:=e9 (bs l);have hs:t.size=JL l:=by rw[K,aY]
 refine ns hs (show t.size<=1099511627700 by omega) (show∀(k:Nat) (h:k<t.size),t[k]=l[k]?.getD 0 by subst K;intro k h;exact qO h) (show∀a b,t.extract a b=bs ((l.take b).drop a)by subst K;exact λa b=>vK l a b) (A5.D2 A9 9 w w _ rfl (i8 _)) λHS HB HAT HX HO=>?_;rw[<-K];clear K hs;go_in
 go_wp2
 go_loopg [5,6,7] t.size (λgk oo ff ii wr=>∃(k q n H:Nat) (a:l9) (L:List (List UInt8)),b9 (gk+k=t.size)/\oo=GI a n H/\ff=U q/\ii=U k/\b9 (Fk c l k=(L,q))/\b9 (A5 A9 9 wr w (GI a n H) L)/\b9 (C7 w wr))
 ·exact⟨0,0,0,0,_,[],I rfl,rfl,rfl,rfl,I rfl,HO,I WU⟩
 rename Nat=>g1;rename J=>wr;obtain⟨k,q,n,H,a,L,HK,rfl,rfl,rfl,Z,G,A0⟩:=hrel;have HQ:=I (show q<=k/\JL L<=k by have:=oQ c l k;rw[Z.o]at this;exact this);have hq:q<=k:=HQ.1;have E6:=HB.o;have EW:=I (show JL L<=1099511627700 by have:=HQ.2;have:=HK.o;omega);by_cases hk:k<t.size
 ·have⟨x,hx⟩:=e9 (l[k]?.getD 0);have hkx:∀h:k<t.size,t[k]=x:=λh=>by rw[HAT.o k h,hx]
  have Qc:=I hx;clear hx;by_cases hc:x=c
  ·subst hc;have F5:=I (GL.lit A9 9 wr [(l.take k).drop q] 1 rfl #[aE (t.extract q k)] (by rw[HX.o];rfl) wr rfl j0)
   go_wp2_with (first
    | (at_builtin;refine dJ A9 Tryz.EZ rfl Ry Fd rfl _ _ rfl w (GI a n H) L rfl (G.ext WU) _ 1 1 [(l.take k).drop q] rfl F5.o (k8 EW.o) Nd ?_;intro v6 w6 ho hg r7;obtain⟨a6,n6,c6,rfl,Ia⟩:=ho.var;have EP:=I ho;have FU:=I (aj (A0.trans WU) hg (λj hj=>(G.lt j hj).1));clear ho hg r7))
   refine kf ?_;exact⟨k+1,k+1,n6,c6,a6,_,I (k8 HK.o),rfl,by go_num,by go_num,I (by rw[zZ Qc.symm,Z.o]),EP,FU⟩
  have hne:((x.toNat:Int) == (c.toNat:Int))=false:=by
   rw[nx];intro e;exact hc (Zm.1 j0)
  go_wp2_with fail;refine kf ?_;exact⟨k+1,q,n,H,a,L,I (k8 HK.o),rfl,rfl,by go_num,I (by rw[yg (by rw[<-Qc.o];exact hc)];exact Z),G,A0⟩
 have Qx:k=t.size:=k8 HK.o;have HE:=I (show DR c l=L++[l.drop q]by unfold DR;rw[<-HS.o,<-Qx,Z.o]);have HD:=I (show(l.take t.size).drop q=l.drop q by rw[HS.o,cT]);have F5:=I (GL.lit A9 9 wr [l.drop q] 1 rfl #[aE (t.extract q t.size)] (by rw[HX.o,HD.o];rfl) wr rfl j0)
 go_wp2_with (first
  | (at_builtin;refine dJ A9 Tryz.EZ rfl Ry Fd rfl _ _ rfl w (GI a n H) L rfl (G.ext WU) _ 1 1 [l.drop q] rfl F5.o (k8 EW.o) Nd ?_;intro v6 w6 ho hg r7;have FU:=I (aj (A0.trans WU) hg (λj hj=>(G.lt j hj).1));clear hg r7))
 go_ret;exact⟨_,rfl,by rw[HE.o];exact ho,FU⟩
def jm(l:List UInt8)(c:UInt8)(hl:JL l<=1099511627700):
 Calls prog 9 #[aE (bs l),.int .u8 (c.toNat:Int)] w λe w'=>∃v,e=ar v/\A5 A9 9 w' w v (DR c l)/\C7 w w':=by
 have⟨t,Z⟩:=e9 (bs l);have hs:t.size=JL l:=by rw[Z,aY]
 refine ns hs (show t.size<=1099511627700 by omega) (show∀(k:Nat) (h:k<t.size),t[k]=l[k]?.getD 0 by subst Z;intro k h;exact qO h) (show∀a b,t.extract a b=bs ((l.take b).drop a)by subst Z;exact λa b=>vK l a b) (A5.D2 A9 9 w w _ rfl (i8 _)) λHS HB HAT HX HO=>?_;rw[<-Z];clear Z hs;go_in
 go_wp2
 go_loopg [5,6,7] (t.size+1) (λgk oo ff ii wr=>∃(k q n H:Nat) (a:l9) (L:List (List UInt8)),b9 (gk+k=t.size+1)/\oo=GI a n H/\ff=U q/\ii=U k/\b9 (if k<=t.size then Fk c l k=(L,q) else L=DR c l)/\b9 (A5 A9 9 wr w (GI a n H) L)/\b9 (C7 w wr))
 ·exact⟨0,0,0,0,_,[],I j0,rfl,rfl,rfl,I (by rw[f9 j0];rfl),HO,I WU⟩
 rename Nat=>g1;rename J=>wr;obtain⟨k,q,n,H,a,L,HK,rfl,rfl,rfl,I9,G,A0⟩:=hrel;have E6:=HB.o;by_cases Gj:k<=t.size
 ·have K:=I (show Fk c l k=(L,q)by have:=I9.o;rwa [f9 Gj]at this);clear I9;have HQ:=I (show q<=k/\JL L<=k by have:=oQ c l k;rw[K.o]at this;exact this);have hq:q<=k:=HQ.1;have EW:=I (show JL L<=1099511627700 by have:=HQ.2;omega);by_cases hk:k<t.size
  ·have⟨x,hx⟩:=e9 (l[k]?.getD 0);have hkx:∀h:k<t.size,t[k]=x:=λh=>by rw[HAT.o k h,hx]
   have Qc:=I hx;have hke:((k:Int) == (t.size:Int))=false:=m9;clear hx;by_cases hc:x=c
   ·subst hc;have F5:=I (GL.lit A9 9 wr [(l.take k).drop q] 1 rfl #[aE (t.extract q k)] (by rw[HX.o];rfl) wr rfl j0)
    go_wp2_with (first
    | (at_builtin;refine dJ A9 Tryz.EZ rfl Ry Fd rfl _ _ rfl w (GI a n H) L rfl (G.ext WU) _ 1 1 [(l.take k).drop q] rfl F5.o (k8 EW.o) Nd ?_;intro v6 w6 ho hg r7;obtain⟨a6,n6,c6,rfl,Ia⟩:=ho.var;have EP:=I ho;have FU:=I (aj (A0.trans WU) hg (λj hj=>(G.lt j hj).1));clear ho hg r7))
    refine kf ?_;exact⟨k+1,k+1,n6,c6,a6,_,I (k8 HK.o),rfl,by go_num,by go_num,I (by rw[f9 j0,zZ Qc.symm,K.o]),EP,FU⟩
   have hne:((x.toNat:Int) == (c.toNat:Int))=false:=by
    rw[nx];intro e;exact hc (Zm.1 j0)
   go_wp2_with fail;refine kf ?_;exact⟨k+1,q,n,H,a,L,I (k8 HK.o),rfl,rfl,by go_num,I (by rw[f9 j0,yg (by rw[<-Qc.o];exact hc)];exact K),G,A0⟩
  have Qx:k=t.size:=j0;have HE:=I (show DR c l=L++[(l.take k).drop q]by unfold DR;rw[<-HS.o,<-Qx,K.o];rw[show l.take k=l from bR TT]);have hke:((k:Int) == (t.size:Int))=true:=m9;have F5:=I (GL.lit A9 9 wr [(l.take k).drop q] 1 rfl #[aE (t.extract q k)] (by rw[HX.o];rfl) wr rfl j0);clear Qx
  go_wp2_with (first
  | (at_builtin;refine dJ A9 Tryz.EZ rfl Ry Fd rfl _ _ rfl w (GI a n H) L rfl (G.ext WU) _ 1 1 [(l.take k).drop q] rfl F5.o (k8 EW.o) Nd ?_;intro v6 w6 ho hg r7;obtain⟨a6,n6,c6,rfl,Ia⟩:=ho.var;have EP:=I ho;have FU:=I (aj (A0.trans WU) hg (λj hj=>(G.lt j hj).1));clear ho hg r7))
  refine kf ?_;exact⟨k+1,k+1,n6,c6,a6,_,I (k8 HK.o),rfl,by go_num,by go_num,I (by rw[f7 j0];exact HE.symm),EP,FU⟩
 have K:=I (show L=DR c l by have:=I9.o;rwa [f7 Gj]at this);clear I9;go_wp2;go_ret;exact⟨_,rfl,by rw[<-K.o];exact G.o,A0⟩
def wS:Go.Shelf.Ren:=⟨fun|101=>155|208=>227|206=>290|n=>n,fun|9=>9|4=>4|3=>3|n=>n,fun|n=>n⟩
def VE:Go.Proofs.Lays.n101 prog wS:={
 mixed:=by kernel_rfl
 f101:=func155.trans (If some j8)
 f206:=func290.trans (If some j8)
 f208:=func227.trans (If some j8)
 t3:=rb
 a3:=Qj
 z3:=RL
 v3:=M1
 t4:=nS
 a4:=QC
 z4:=T6
 v4:=R3
 t9:=QU
 a9:=Mv
 z9:=TD
 v9:=QK }
def oa:Go.Shelf.Ren:=⟨fun|156=>149|165=>217|166=>218|169=>219|240=>285|241=>286|276=>321|277=>322|n=>n,fun|31=>22|9=>9|3=>3|4=>4|0=>0|20=>20|72=>184|76=>188|70=>182|37=>49|75=>187|127=>233|164=>248|5=>5|80=>190|n=>n,fun|n=>n⟩
def wR:Go.Proofs.Lays.n156 prog oa:={
 mixed:=by kernel_rfl
 f156:=func149.trans (If some j8)
 f165:=func217.trans (If some j8)
 f166:=func218.trans (If some j8)
 f169:=func219.trans (If some j8)
 f240:=func285.trans (If some j8)
 f241:=func286.trans (If some j8)
 f276:=func321.trans (If some j8)
 f277:=func322.trans (If some j8)
 t0:=NA
 a0:=Qn
 z0:=Q2
 v0:=Em
 t3:=rb
 a3:=Qj
 z3:=RL
 v3:=M1
 t4:=nS
 a4:=QC
 z4:=T6
 v4:=R3
 t9:=QU
 a9:=Mv
 z9:=TD
 v9:=QK
 t20:=nB
 a20:=Tryz.isAgg20
 z20:=P0
 v20:=RS
 t31:=Ry
 a31:=Tryz.isAgg22
 z31:=Tryz.sizeOf22
 v31:=Tryz.zeroValue22
 t37:=TW
 a37:=Tryz.isAgg49
 z37:=P2
 v37:=Lb
 t70:=Tryz.underlying182
 a70:=Tryz.isAgg182
 z70:=Tryz.sizeOf182
 v70:=Tryz.zeroValue182
 t72:=Tryz.underlying184
 a72:=Tryz.isAgg184
 z72:=Tryz.sizeOf184
 v72:=Tryz.zeroValue184
 t75:=Tryz.underlying187
 a75:=Tryz.isAgg187
 z75:=Tryz.sizeOf187
 v75:=Tryz.zeroValue187
 t76:=Tryz.underlying188
 a76:=Tryz.isAgg188
 z76:=Tryz.sizeOf188
 v76:=Tryz.zeroValue188
 t127:=Tryz.underlying233
 a127:=Tryz.isAgg233
 z127:=Tryz.sizeOf233
 v127:=Tryz.zeroValue233
 t164:=Tryz.underlying248
 a164:=Tryz.isAgg248
 z164:=Tryz.sizeOf248
 v164:=Tryz.zeroValue248 }
def wO:Go.Shelf.Ren:=⟨fun|145=>25|220=>56|219=>121|217=>189|225=>190|224=>191|267=>192|266=>264|314=>265|n=>n,fun|9=>9|4=>4|59=>47|3=>3|5=>5|46=>165|146=>217|51=>216|n=>n,fun|1=>0|n=>n⟩
def VF:Go.Proofs.Lays.n145 prog wO:={
 mixed:=by kernel_rfl
 f145:=func25.trans (If some j8)
 f217:=func189.trans (If some j8)
 f219:=func121.trans (If some j8)
 f220:=func56.trans (If some j8)
 f224:=func191.trans (If some j8)
 f225:=func190.trans (If some j8)
 f266:=func264.trans (If some j8)
 f267:=func192.trans (If some j8)
 f314:=func265.trans (If some j8)
 t3:=rb
 a3:=Qj
 z3:=RL
 v3:=M1
 t4:=nS
 a4:=QC
 z4:=T6
 v4:=R3
 t5:=V3
 a5:=TB
 z5:=NB
 v5:=S5
 t9:=QU
 a9:=Mv
 z9:=TD
 v9:=QK
 t46:=L2
 a46:=Iy
 z46:=Ty
 v46:=Wk
 t51:=Ps
 a51:=Ld
 z51:=y3
 v51:=Xa
 t59:=Tryz.underlying47
 a59:=Tryz.isAgg47
 z59:=Tryz.sizeOf47
 v59:=Tryz.zeroValue47
 t146:=Tryz.underlying217
 a146:=Tryz.isAgg217
 z146:=Tryz.sizeOf217
 v146:=Tryz.zeroValue217
 g1:=by kernel_rfl }
def pB:Go.Shelf.Ren:=⟨fun|155=>75|154=>153|138=>224|165=>217|143=>225|166=>218|197=>226|169=>219|195=>287|218=>288|240=>285|241=>286|219=>121|260=>289|276=>321|277=>322|217=>189|225=>190|224=>191|267=>192|266=>264|314=>265|n=>n,fun|9=>9|3=>3|4=>4|72=>184|0=>0|76=>188|105=>192|21=>21|5=>5|70=>182|20=>20|37=>49|75=>187|127=>233|164=>248|46=>165|119=>251|139=>254|138=>253|146=>217|51=>216|80=>190|n=>n,fun|1=>0|3=>1|4=>2|n=>n⟩
def Z2:Go.Proofs.Lays.n155 prog pB:={
 mixed:=by kernel_rfl
 f138:=func224.trans (If some j8)
 f143:=func225.trans (If some j8)
 f154:=func153.trans (If some j8)
 f155:=func75.trans (If some j8)
 f165:=func217.trans (If some j8)
 f166:=func218.trans (If some j8)
 f169:=func219.trans (If some j8)
 f195:=func287.trans (If some j8)
 f197:=func226.trans (If some j8)
 f217:=func189.trans (If some j8)
 f218:=func288.trans (If some j8)
 f219:=func121.trans (If some j8)
 f224:=func191.trans (If some j8)
 f225:=func190.trans (If some j8)
 f240:=func285.trans (If some j8)
 f241:=func286.trans (If some j8)
 f260:=func289.trans (If some j8)
 f266:=func264.trans (If some j8)
 f267:=func192.trans (If some j8)
 f276:=func321.trans (If some j8)
 f277:=func322.trans (If some j8)
 f314:=func265.trans (If some j8)
 t0:=NA
 a0:=Qn
 z0:=Q2
 v0:=Em
 t3:=rb
 a3:=Qj
 z3:=RL
 v3:=M1
 t4:=nS
 a4:=QC
 z4:=T6
 v4:=R3
 t5:=V3
 a5:=TB
 z5:=NB
 v5:=S5
 t9:=QU
 a9:=Mv
 z9:=TD
 v9:=QK
 t20:=nB
 a20:=Tryz.isAgg20
 z20:=P0
 v20:=RS
 t21:=Tryz.underlying21
 a21:=Tryz.isAgg21
 z21:=Tryz.sizeOf21
 v21:=Tryz.zeroValue21
 t37:=TW
 a37:=Tryz.isAgg49
 z37:=P2
 v37:=Lb
 t46:=L2
 a46:=Iy
 z46:=Ty
 v46:=Wk
 t51:=Ps
 a51:=Ld
 z51:=y3
 v51:=Xa
 t70:=Tryz.underlying182
 a70:=Tryz.isAgg182
 z70:=Tryz.sizeOf182
 v70:=Tryz.zeroValue182
 t72:=Tryz.underlying184
 a72:=Tryz.isAgg184
 z72:=Tryz.sizeOf184
 v72:=Tryz.zeroValue184
 t75:=Tryz.underlying187
 a75:=Tryz.isAgg187
 z75:=Tryz.sizeOf187
 v75:=Tryz.zeroValue187
 t76:=Tryz.underlying188
 a76:=Tryz.isAgg188
 z76:=Tryz.sizeOf188
 v76:=Tryz.zeroValue188
 t105:=Tryz.underlying192
 a105:=Tryz.isAgg192
 z105:=Tryz.sizeOf192
 v105:=Tryz.zeroValue192
 t119:=Tryz.underlying251
 a119:=Tryz.isAgg251
 z119:=Tryz.sizeOf251
 t127:=Tryz.underlying233
 a127:=Tryz.isAgg233
 z127:=Tryz.sizeOf233
 v127:=Tryz.zeroValue233
 t138:=Tryz.underlying253
 a138:=Tryz.isAgg253
 z138:=Tryz.sizeOf253
 v138:=Tryz.zeroValue253
 t139:=Tryz.underlying254
 a139:=Tryz.isAgg254
 z139:=Tryz.sizeOf254
 v139:=Tryz.zeroValue254
 t146:=Tryz.underlying217
 a146:=Tryz.isAgg217
 z146:=Tryz.sizeOf217
 v146:=Tryz.zeroValue217
 t164:=Tryz.underlying248
 a164:=Tryz.isAgg248
 z164:=Tryz.sizeOf248
 v164:=Tryz.zeroValue248
 g1:=by kernel_rfl
 g3:=by kernel_rfl
 g4:=by kernel_rfl }
def tZ:Builder.Extra prog oa where
 sizeBuilder:=by kernel_rfl
 liesBuilder:=by kernel_rfl
 t5:=V3
 a5:=TB
 z5:=NB
 v5:=S5
 infoByte:=by kernel_rfl
 cellsByte:=by kernel_rfl
 sizeByte:=by kernel_rfl
 neB5:=by decide
def Xk:Builder.Extra prog pB where
 sizeBuilder:=by kernel_rfl
 liesBuilder:=by kernel_rfl
 t5:=V3
 a5:=TB
 z5:=NB
 v5:=S5
 infoByte:=by kernel_rfl
 cellsByte:=by kernel_rfl
 sizeByte:=by kernel_rfl
 neB5:=by decide
def D5(a:Int):Prop:=-1000000000000000000<=a/\a<=1000000000000000000
def Ac(p:Int){q:Int}(h:q≠0):(p.tmod q).natAbs<q.natAbs:=by
 rw[Q7];exact Nat.mod_lt _ j0
def Ab(p:Int){q:Int}(h:q≠0)(hq:D5 q):D5 (p.tmod q):=by
 have:=Ac p h;unfold D5 at *
 revert this
 generalize p.tmod q=r;intro this;omega
def ky(a b:Int)(w:J)(ha:D5 a)(hb:D5 b):
 Calls prog 205 #[U a,U b] w λe w'=>e=ar (U (gI a b))/\E7 w w':=by
 go_in
 go_wp2
 go_loopw [0,1] (λx y wr=>∃p q:Int,x=U p/\y=U q/\b9 (gI p q=gI a b)/\b9 (D5 p)/\b9 (D5 q)/\E7 w wr) (λ_ y _=>(intOf y).natAbs)
 ·exact⟨a,b,rfl,rfl,I rfl,I ha,I hb,E7.refl _⟩
 obtain⟨p,q,rfl,rfl,Z,HP,K,hx⟩:=hrel;have⟨MM,Oh⟩:=HP.o;have⟨Hh,IB⟩:=K.o;by_cases G:q=0
 ·subst G;go_wp2
  all_goals
   go_ret;refine⟨au ?_,hx⟩;have:=Z.o;rw[sS]at this;omega
 have hqb:(q != 0)=true:=by simpa using G
 have hqb':(q == 0)=false:=by simpa using G
 have ht:=Ac p G;have HT:=I ht;have H:=I G;go_wp2
 go_quiet (fail)
 go_wp2
 go_roundw
 case rel=>exact⟨q,p.tmod q,rfl,by go_num,I (by rw[zu];exact Z),K,I (Ab p H.o K),hx.trans ⟨_,rfl⟩⟩
 have h:=HT.o;rw[Q7]at h;simp[intOf,Q7];omega
def tM(a b:Int)(w:J)(K:D5 a)(hb:D5 b):
 Calls prog 176 #[U a,U b] w λe w'=>e=ar (U (gI a b))/\E7 w w':=by
 have H:=K;have SI:=hb;obtain⟨T',ON⟩:=H;obtain⟨E6,Ew⟩:=SI;by_cases h1:a<0
 all_goals
  by_cases h2:b<0
  all_goals
   go_in
   go_wp2
   go_loop [0,1,5] (λx y z=>∃p q:Int,x=U p/\y=U q/\0<=p/\0<=q/\b9 (gI p q=gI a b)/\b9 (D5 p)/\b9 (D5 q)) (λ_ y _=>(intOf y).natAbs)
   case atStart =>
    first
     | exact⟨_,_,rfl,rfl,by omega,by omega,I rfl,I K,I hb⟩
     | exact⟨-a,_,by go_num,rfl,by omega,by omega,I (ke _ _),I ⟨by omega,by omega⟩,I hb⟩
     | exact⟨_,-b,rfl,by go_num,by omega,by omega,I (oL _ _),I K,I ⟨by omega,by omega⟩⟩
     | exact⟨-a,-b,by go_num,by go_num,by omega,by omega,I ((ke _ _).trans (oL _ _)),I ⟨by omega,by omega⟩,I ⟨by omega,by omega⟩⟩
   obtain⟨p,q,rfl,rfl,LV,hq0,HG,HP,HQ⟩:=hrel;by_cases G:q=0
   ·subst G;go_wp2;go_ret;refine⟨au ?_,E7.refl _⟩;have:=HG.o;rw[sS]at this;omega
   have hqb':(q == 0)=false:=by simpa using G
   have LW:0<q:=j0;refine Op (Int.emod_lt_of_pos p LW) (Int.emod_nonneg p G) G (mx (b:=q) LV) λHT Ri Z HM=>?_;go_wp2
   go_round
   case rel=>exact⟨q,p % q,rfl,by go_num,by omega,Ri,I (by rw[<-HM.o,zu];exact HG),HQ,I (by rw[<-HM.o];exact Ab p Z.o HQ)⟩
   have:=HT.o;have:=Ri.o;exact sw
abbrev EF(x y:Int):arQ:=.agg #[.int .i64 x,.int .i64 y]
abbrev IN(r:(Int×Int)×Bool):arQ:=.tuple #[.agg #[.int .i64 r.1.1,.int .i64 r.1.2],bl r.2]
def iS{a:Int}(h:D5 a):D5 (-a):=by unfold D5 at *;omega
def rQ(n:Int){g:Int}(hg:1<=g)(hn:D5 n):D5 (n.tdiv g):=by
 have:=qI n g hg;unfold D5 at *
 revert this
 generalize n.tdiv g=r;intro this;omega
def bM{a:Int}(h:D5 a):IntKind.i64.wrap a=a/\wrap64 a=a:=by
 unfold D5 at h;have:wrap64 a=a:=by unfold wrap64;omega
 exact⟨by rw[mn];omega,this⟩
def M3(h:σ:=by
 have HX:=I (C7.alloc w (QD #[U x,U y] 56));cases h1:A4 y 1 1000000000
 ·have H1:=I h1;clear h1;(try unfold f8);go_in
  go_wp2_with fail;refine(qq0 _ _ _ _).mono ?_;rw[H1.o];rintro e w1 ⟨rfl,rfl⟩;go_wp2;go_ret;exact⟨ag (by simp[z7,H1.o]),HX⟩
 ·have H1:=I h1;have hy:D5 y:=by simp only[A4,eI,ef]at h1;exact⟨by omega,by omega⟩
  clear h1;cases h2:A4 x (-1000000000) 1000000000
  ·have H2:=I h2;clear h2;(try unfold f8);go_in
   go_wp2_with fail;refine(qq0 _ _ _ _).mono ?_;rw[H1.o];rintro e w1 ⟨rfl,rfl⟩;go_wp2_with fail;refine(qq0 _ _ _ _).mono ?_;rw[H2.o];rintro e w1 ⟨rfl,rfl⟩;go_wp2;go_ret;exact⟨ag (by simp[z7,H2.o]),HX⟩
  have H2:=I h2;have hx:D5 x:=by simp only[A4,eI,ef]at h2;exact⟨by omega,by omega⟩
  clear h2;have HC:=I (qq1 x y (w.alloc (QD #[U x,U y] 56)) hx hy);(try unfold f8);go_in
  go_wp2_with fail;refine(qq0 _ _ _ _).mono ?_;rw[H1.o];rintro e w1 ⟨rfl,rfl⟩;go_wp2_with fail;refine(qq0 _ _ _ _).mono ?_;rw[H2.o];rintro e w1 ⟨rfl,rfl⟩;go_wp2_with fail;refine HC.mono ?_;rintro e w1 ⟨rfl,hd⟩;go_wp2;go_ret;exact⟨ag tx,HX.trans hd.ext⟩
 ):σ:=h
def cH(x y:Int)(w:J):
 f8 146 #[EF x y] w (bl (z7 (x,y))):=by
 have qq0:=@av;have qq1:=@ky;exact M3
def cI(x y:Int)(w:J):
 f8 174 #[EF x y] w (bl (z7 (x,y))):=by
 have qq0:=@bj;have qq1:=@tM;exact M3
def dx(h:σ:=by
 have⟨g,hg⟩:=e9 (gI n d);rw[<-hg]at K2 PF HC hq hq';have HG:=I hg;have LY:g<=1000000000000000000:=by obtain⟨_,_⟩:=hd;omega
 have Pg:¬g=0:=by omega
 have hgn:(-g == 0)=false:=by simp;omega
 obtain⟨FT,Nf⟩:=hn;obtain⟨PH,WL⟩:=hd;have⟨q1,Hh⟩:=e9 (-(n.tdiv g));have⟨q2,IB⟩:=e9 (-(d.tdiv g));have HR:=I (show aN n d=Gk (q1,q2)by unfold aN;rw[f7 (by simp[h0,H1.o,H2.o]),f9 h3,<-HG.o,TM,TM,Hh,IB]);have⟨e1,e2⟩:=bM (iS hq);have⟨e3,e4⟩:=bM (iS hq');rw[<-Hh]at e1 e2;rw[<-IB]at e3 e4;have m1:(-n).tdiv g=q1:=by rw[LX,Hh]
 have m2:(-d).tdiv g=q2:=by rw[LX,IB]
 have m3:n.tdiv (-g)=q1:=by rw[TM,Hh]
 have m4:d.tdiv (-g)=q2:=by rw[TM,IB]
 have aak:=Hh.symm;have Wp:=IB.symm;clear hq hq' hg PF Hh IB;cases hv:z7 (q1,q2)
 all_goals
  (try unfold f8);go_in
  go_wp2_with fail;refine(qq0 _ _ _ _).mono ?_;rw[H1.o];rintro e w1 ⟨rfl,rfl⟩;go_wp2_with fail;refine(qq0 _ _ _ _).mono ?_;rw[H2.o];rintro e w1 ⟨rfl,rfl⟩;go_wp2_with fail;refine HC.mono ?_;rintro e w1 ⟨rfl,hd⟩;have hB:w1.heap[w.heap.size]?=some (QD #[U 0,U 0] 56 (0,0)):=(hd.ext.block _ j7).trans (vC _ _);have HB:=I hB;have LT:=I (In hB);have X1:=I (HX.trans hd.ext);clear hd hB;go_wp2
  go_region_law (fail)
  have X2:=I ((X1.trans (C7.alloc w1 (QD #[U q1,U q2] 56))).trans cn);have HV:=I (qq1 q1 q2 ((w1.alloc (QD #[U q1,U q2] 56)).drew));go_wp2_with fail;refine HV.mono ?_;rw[hv];rintro e w2 ⟨rfl,hx⟩;have lt:=LT.o;have hB:w2.heap[w.heap.size]?=some (QD #[U 0,U 0] 56 (0,0)):=(hx.block _ m9).trans ((aZ w1 (QD #[U q1,U q2] 56) _ lt).trans HB);have hC:w2.heap[w1.heap.size]?=some (QD #[U q1,U q2] 56 (0,0)):=(hx.block _ j7).trans (vC w1 (QD #[U q1,U q2] 56));have b0:w2.cell? (O w.heap.size 0)=some (U 0):=by rw[aR _ _ _ _ _ _ hB];rfl
  have b1:w2.cell? (O w.heap.size 1)=some (U 0):=by rw[aR _ _ _ _ _ _ hB];rfl
  have c0:w2.cell? (O w1.heap.size 0)=some (U q1):=by rw[aR _ _ _ _ _ _ hC];rfl
  have c1:w2.cell? (O w1.heap.size 1)=some (U q2):=by rw[aR _ _ _ _ _ _ hC];rfl
  have fb:∀o,w2.frozen? (O w.heap.size o)=false:=λo=>mo _ _ _ _ _ hB
  have X3:=I (X2.trans hx);clear hx hB hC lt;go_wp2;rw[HR.o]
 ·refine Fn (by simp[results,qq2,go_sem,b0,b1]<;>rfl) rfl ⟨by simp[Gk,hv],?_⟩;exact(X3.setCell j7 _).setCell j7 _
 ·refine Fn (by simp[results,qq2,go_sem,b0,b1]<;>rfl) rfl ⟨by simp[Gk,hv],?_⟩;exact(X3.setCell j7 _).setCell j7 _
 ):σ:=h
def gp(h:σ:=by
 have HC:=I (qq0 n d (w.alloc (QD #[U 0,U 0] 56)) hn hd);have⟨g,hg⟩:=e9 (gI n d);rw[<-hg]at K2 PF HC hq hq';have HG:=I hg;have LY:g<=1000000000000000000:=by obtain⟨_,_⟩:=hd;omega
 have Pg:¬g=0:=by omega
 obtain⟨FT,Nf⟩:=hn;obtain⟨PH,WL⟩:=hd;have⟨q1,Hh⟩:=e9 (n.tdiv g);have⟨q2,IB⟩:=e9 (d.tdiv g);have HR:=I (show aN n d=Gk (q1,q2)by unfold aN;rw[f7 (by simp[h0,H1.o,H2.o]),f7 h3,<-HG.o,Hh,IB]);have hm:d.tdiv g=d/g:=cr j0;have⟨e1,e2⟩:=bM hq;have⟨e3,e4⟩:=bM hq';rw[<-Hh]at e1 e2;rw[<-IB]at e3 e4;have aak:=Hh.symm;have Wp:=IB.symm;have hq3':d/g=q2:=by rw[<-hm,IB]
 clear hq hq' hg PF Hh IB hm;cases hv:z7 (q1,q2)
 all_goals
  (try unfold f8);go_in
  go_wp2_with fail;refine(qq1 _ _ _ _).mono ?_;rw[H1.o];rintro e w1 ⟨rfl,rfl⟩;go_wp2_with fail;refine(qq1 _ _ _ _).mono ?_;rw[H2.o];rintro e w1 ⟨rfl,rfl⟩;go_wp2_with fail;refine HC.mono ?_;rintro e w1 ⟨rfl,hd⟩;have hB:w1.heap[w.heap.size]?=some (QD #[U 0,U 0] 56 (0,0)):=(hd.ext.block _ j7).trans (vC _ _);have HB:=I hB;have LT:=I (In hB);have X1:=I (HX.trans hd.ext);clear hd hB;go_wp2
  go_region_law (fail)
  have X2:=I ((X1.trans (C7.alloc w1 (QD #[U q1,U q2] 56))).trans cn);have HV:=I (qq2 q1 q2 ((w1.alloc (QD #[U q1,U q2] 56)).drew));go_wp2_with fail;refine HV.mono ?_;rw[hv];rintro e w2 ⟨rfl,hx⟩;have lt:=LT.o;have hB:w2.heap[w.heap.size]?=some (QD #[U 0,U 0] 56 (0,0)):=(hx.block _ m9).trans ((aZ w1 (QD #[U q1,U q2] 56) _ lt).trans HB);have hC:w2.heap[w1.heap.size]?=some (QD #[U q1,U q2] 56 (0,0)):=(hx.block _ j7).trans (vC w1 (QD #[U q1,U q2] 56));have b0:w2.cell? (O w.heap.size 0)=some (U 0):=by rw[aR _ _ _ _ _ _ hB];rfl
  have b1:w2.cell? (O w.heap.size 1)=some (U 0):=by rw[aR _ _ _ _ _ _ hB];rfl
  have c0:w2.cell? (O w1.heap.size 0)=some (U q1):=by rw[aR _ _ _ _ _ _ hC];rfl
  have c1:w2.cell? (O w1.heap.size 1)=some (U q2):=by rw[aR _ _ _ _ _ _ hC];rfl
  have fb:∀o,w2.frozen? (O w.heap.size o)=false:=λo=>mo _ _ _ _ _ hB
  have X3:=I (X2.trans hx);clear hx hB hC lt;go_wp2;rw[HR.o]
 ·refine Fn (by simp[results,qq3,go_sem,b0,b1]<;>rfl) rfl ⟨by simp[Gk,hv],?_⟩;exact(X3.setCell j7 _).setCell j7 _
 ·refine Fn (by simp[results,qq3,go_sem,b0,b1]<;>rfl) rfl ⟨by simp[Gk,hv],?_⟩;exact(X3.setCell j7 _).setCell j7 _
 ):σ:=h
def bA(h:σ:=by
 refine Fn (by simp[results,qq0,go_sem]<;>rfl) rfl ⟨rfl,HX⟩
 ):σ:=h
def lL(n d:Int)(w:J):
 f8 194 #[U n,U d] w (IN (aN n d)):=by
 have HX:=I (C7.alloc w (QD #[U 0,U 0] 56));by_cases h0:d=0
 ·have HR:=I (show aN n d=((0,0),false)by unfold aN;rw[f9 (.inl h0)]);subst h0;unfold f8;go_in
  go_wp2;rw[HR.o];have qq0:=@al;exact bA
 have h0b:(d == 0)=false:=by simpa using h0
 cases H:A4 n (-1000000000000000000) 1000000000000000000
 ·have H1:=I H;clear H;have HR:=I (show aN n d=((0,0),false)by unfold aN;rw[f9 (.inr (.inl H1))]);unfold f8;go_in
  go_wp2_with fail;refine pk.mono ?_;rw[H1.o];rintro e w1 ⟨rfl,rfl⟩;go_wp2;rw[HR.o];have qq0:=@al;exact bA
 have H1:=I H;have hn:D5 n:=by simp only[A4,eI,ef]at H;exact⟨by omega,by omega⟩
 clear H;cases G:A4 d (-1000000000000000000) 1000000000000000000
 ·have H2:=I G;clear G;have HR:=I (show aN n d=((0,0),false)by unfold aN;rw[f9 (.inr (.inr H2))]);unfold f8;go_in
  go_wp2_with fail;refine pk.mono ?_;rw[H1.o];rintro e w1 ⟨rfl,rfl⟩;go_wp2_with fail;refine pk.mono ?_;rw[H2.o];rintro e w1 ⟨rfl,rfl⟩;go_wp2;rw[HR.o];have qq0:=@al;exact bA
 have H2:=I G;have hd:D5 d:=by simp only[A4,eI,ef]at G;exact⟨by omega,by omega⟩
 clear G;have K2:=nO n h0;have PF:=SL n h0;have hq:=rQ n K2 hn;have hq':=rQ d K2 hd;by_cases h3:d<0
 ·have HC:=I (ky n d (w.alloc (QD #[U 0,U 0] 56)) hn hd);have qq0:=@av;have qq1:=@cH;have qq2:=@al;exact dx
 have qq0:=@ky;have qq1:=@av;have qq2:=@cH;have qq3:=@al;exact gp
def lQ(n d:Int)(w:J):
 f8 103 #[U n,U d] w (IN (aN n d)):=by
 have HX:=I (C7.alloc w (QD #[U 0,U 0] 56));by_cases h0:d=0
 ·have HR:=I (show aN n d=((0,0),false)by unfold aN;rw[f9 (.inl h0)]);subst h0;unfold f8;go_in
  go_wp2;rw[HR.o];have qq0:=@jc;exact bA
 have h0b:(d == 0)=false:=by simpa using h0
 cases H:A4 n (-1000000000000000000) 1000000000000000000
 ·have H1:=I H;clear H;have HR:=I (show aN n d=((0,0),false)by unfold aN;rw[f9 (.inr (.inl H1))]);unfold f8;go_in
  go_wp2_with fail;refine ta.mono ?_;rw[H1.o];rintro e w1 ⟨rfl,rfl⟩;go_wp2;rw[HR.o];have qq0:=@jc;exact bA
 have H1:=I H;have hn:D5 n:=by simp only[A4,eI,ef]at H;exact⟨by omega,by omega⟩
 clear H;cases G:A4 d (-1000000000000000000) 1000000000000000000
 ·have H2:=I G;clear G;have HR:=I (show aN n d=((0,0),false)by unfold aN;rw[f9 (.inr (.inr H2))]);unfold f8;go_in
  go_wp2_with fail;refine ta.mono ?_;rw[H1.o];rintro e w1 ⟨rfl,rfl⟩;go_wp2_with fail;refine ta.mono ?_;rw[H2.o];rintro e w1 ⟨rfl,rfl⟩;go_wp2;rw[HR.o];have qq0:=@jc;exact bA
 have H2:=I G;have hd:D5 d:=by simp only[A4,eI,ef]at G;exact⟨by omega,by omega⟩
 clear G;have K2:=nO n h0;have PF:=SL n h0;have hq:=rQ n K2 hn;have hq':=rQ d K2 hd;by_cases h3:d<0
 ·have HC:=I (tM (-n) (-d) (w.alloc (QD #[U 0,U 0] 56)) (iS hn) (iS hd));rw[ke,oL]at HC;have qq0:=@bj;have qq1:=@cI;have qq2:=@jc;exact dx
 have qq0:=@tM;have qq1:=@bj;have qq2:=@cI;have qq3:=@jc;exact gp
