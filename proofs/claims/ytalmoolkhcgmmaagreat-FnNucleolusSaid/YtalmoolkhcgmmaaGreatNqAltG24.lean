import Derived.Test.YtalmoolkhcgmmaaGreatNqAltG23
import Derived.Test.YtalmoolkhcgmmaaGreatNqAltG22
import Derived.Outline
set_option linter.unusedVariables false
set_option linter.unusedSimpArgs false
namespace Go.Proofs.YtalmoolkhcgmmaaGreat
variable{l:j6}{k j b n wX base xn xc yn yc rn rc:Nat}{a xa ya ra:j8}{w W w':World}{piv:Int}{r:AT}
set_option maxHeartbeats 16000000
set_option maxRecDepth 100000
open Go.RowKit
section
variable{w:World}{a:j8}{na ca:Nat}{b:j8}{nb cb:Nat}{c:j8}{nc cc:Nat}{A:j7}{B:j9}{C:j6}
 {xa:j8} {xn xc:Nat} {ya:j8} {yn yc:Nat} {ra:j8} {rn rc:Nat} {r:AT}
theorem ue(h:Cz w a na ca b nb cb c nc cc A B C)(h':Jb w xa xn xc ya yn yc ra rn rc r)(ok:xF A B C=true)(hs:r.status=3):
 Calls Tryz.prog 63 #[C8 a na ca b nb cb c nc cc,A6 r xa xn xc ya yn yc ra rn rc] w fun e w'=>e=.returned (.bool (aD aV A B C r))/\Ext w w':=by
 obtain⟨r1,r2,r3,r4,r5,r6⟩:=cI h ok;subst r3;have T0:=ae (show Two w ((w.alloc (bE a nb ca b nb cb c nc cc)).alloc (ce r xa xn xc ya yn yc ra rn rc)) a nb ca b nb cb c nc cc xa xn xc ya yn yc ra rn rc r A B C from⟨Ext.refl _,(h.ext (Ext.alloc _ _)).ext (Ext.alloc _ _),(h'.ext (Ext.alloc _ _)).ext (Ext.alloc _ _)⟩);have xM:=h'.y.o3;have D1:=h'.y.l9;have yq:=h.c.o3;have AZ:=h.c.l9;have zN:=h.b.o3;have zx:=h.b.l9;have z8:=ae h.c.hlen;have y4:=ae h.b.hlen;have BL:=ae h.a.hlen;have Jh:=ae h'.y.hlen;have HE:=ae (show aD aV A B C r=(dp A B C.length r.X&&O6 A B C r.A5)by unfold aD;rw[if_neg b9,if_neg b9,if_pos hs]);have E8:=ae r4;have Gc:=ae r5;have Gg:=ae (fun j=>ic (A:=A) (fun i hi=>(r5 i (j4 h.a.hlen)).2) j);have DQ:=ae r6;obtain⟨st,U,rY,J,rv,u⟩:=r;obtain⟨v1,v2⟩:=rv;simp only at hs HE Jh;subst hs;have HV:=ae (eF T0.o.lp);rw[ok]at HV;clear h h' r4 r5 r6;have R:=ae (fun(W:World) (t:Two w W a nb ca b nb cb c nc cc xa xn xc ya yn yc ra rn rc ⟨3,U,rY,J,(v1,v2),u⟩ A B C)=>kp t.lp t.lr.x);rw[ok]at R;simp only[Bool.true_and]at R;have JL:((3:Int) == 1)=false:=by decide
 have Ax:((3:Int) == 2)=false:=by decide
 cases hf:dp A B C.length U
 ·rw[hf]at R HE;clear hf;go_enter Tryz.func63,Tryz.ntmps63
  go_wp2_with fail;refine HV.o.mono ?_;rintro e w1 ⟨rfl,hx⟩;have T1:=ae (T0.o.grow hx);obtain⟨p0,p1,p2⟩:=T1.o.p;obtain⟨q0,I,q2,G,q4,q5⟩:=T1.o.q;clear hx;go_upto_region 31 with fail;have k7:Ext w1 w1.drew:=Ext.drew w1;refine wp_region_held_drew (S:=(fun w'=>w'.cell? ⟨w.heap.size,0,none⟩=some (.slice a nb ca)/\w'.cell? ⟨w.heap.size,1,none⟩=some (.slice b nb cb)/\w'.cell? ⟨w.heap.size,2,none⟩=some (.slice c nc cc)/\w'.cell? ⟨w.heap.size+1,1,none⟩=some (.slice xa xn xc)/\w'.cell? ⟨w.heap.size+1,3,none⟩=some (.slice ra rn rc)/\Ext w1 w')) e8 ?_ (fun O=>?_)
  ·exact⟨k7.k6 p0,k7.k6 p1,k7.k6 p2,k7.k6 I,k7.k6 G,k7⟩
  refine tk 0 ?_;refine tk 1 ?_;refine tk 2 ?_;refine rd (i:=3) (h:=fun K hK=>?_);go_simp
  (go_at_call 111;refine(R.o _ (T1.o.grow k7)).mono ?_;rintro e w3 ⟨rfl,Z⟩;have k7:=k7.trans Z)
  go_wp2_with fail;refine hK.out _ _ ?_ (fun O=>?_)
  ·exact⟨k7.k6 p0,k7.k6 p1,k7.k6 p2,k7.k6 I,k7.k6 G,k7⟩
  clear hK K
  try simp only[Act.put,sA,sB,sC]
  refine tk 4 ?_;refine tk 5 ?_;refine sk 6 ?_;refine sk 7 ?_;refine sk 8 ?_;refine sk 9 ?_;refine sk 10 ?_;refine sk 11 ?_;refine sk 12 ?_;refine tk 13 ?_;refine tk 14 ?_;refine sk 15 ?_;refine sk 16 ?_;refine sk 17 ?_;refine sk 18 ?_;refine sk 19 ?_;refine sk 20 ?_;refine sk 21 ?_;refine sk 22 ?_;refine sk 23 ?_;refine tk 24 ?_;refine wpAnyH_done e8 ?_ _;go_wp2_with fail;go_ret;exact⟨ag (by rw[HE.o];rfl),(T1.o.grow k7).all⟩
 ·rw[hf]at R HE;clear hf;have AE:=ae (show aD aV A B C ⟨3,U,rY,J,(v1,v2),u⟩=((decide (J.length=nc)&&BC J)&&(dj A J (List.replicate nb 0)&&LG (wY C J)))by rw[HE.o,tr,z8.o,y4.o,Bool.true_and]);have OM:=ae (fun(W:World) (t:Two w W a nb ca b nb cb c nc cc xa xn xc ya yn yc ra rn rc ⟨3,U,rY,J,(v1,v2),u⟩ A B C)=>jZ t.lr.A5 nc);cases hn:(decide (J.length=nc)&&BC J)
  ·rw[hn]at AE;simp only[hn]at OM;clear hn;go_enter Tryz.func63,Tryz.ntmps63
   go_wp2_with fail;refine HV.o.mono ?_;rintro e w1 ⟨rfl,hx⟩;have T1:=ae (T0.o.grow hx);obtain⟨p0,p1,p2⟩:=T1.o.p;obtain⟨q0,I,q2,G,q4,q5⟩:=T1.o.q;clear hx;go_upto_region 31 with fail;have k7:Ext w1 w1.drew:=Ext.drew w1;refine wp_region_held_drew (S:=(fun w'=>w'.cell? ⟨w.heap.size,0,none⟩=some (.slice a nb ca)/\w'.cell? ⟨w.heap.size,1,none⟩=some (.slice b nb cb)/\w'.cell? ⟨w.heap.size,2,none⟩=some (.slice c nc cc)/\w'.cell? ⟨w.heap.size+1,1,none⟩=some (.slice xa xn xc)/\w'.cell? ⟨w.heap.size+1,3,none⟩=some (.slice ra rn rc)/\Ext w1 w')) e8 ?_ (fun O=>?_)
   ·exact⟨k7.k6 p0,k7.k6 p1,k7.k6 p2,k7.k6 I,k7.k6 G,k7⟩
   refine tk 0 ?_;refine tk 1 ?_;refine tk 2 ?_;refine rd (i:=3) (h:=fun K hK=>?_);go_simp
   (go_at_call 111;refine(R.o _ (T1.o.grow k7)).mono ?_;rintro e w3 ⟨rfl,Z⟩;have k7:=k7.trans Z)
   go_wp2_with fail;refine hK.out _ _ ?_ (fun O=>?_)
   ·exact⟨k7.k6 p0,k7.k6 p1,k7.k6 p2,k7.k6 I,k7.k6 G,k7⟩
   clear hK K
   try simp only[Act.put,sA,sB,sC]
   refine tk 4 ?_;refine tk 5 ?_;refine tk 6 ?_;refine tk 7 ?_;refine tk 8 ?_;refine tk 9 ?_;refine tk 10 ?_;refine rd (i:=11) (h:=fun K hK=>?_);go_simp
   (go_at_call 114;refine(OM.o _ (T1.o.grow k7)).mono ?_;rintro e w4 ⟨rfl,xG⟩;have k7:=k7.trans xG)
   go_wp2_with fail;refine hK.out _ _ ?_ (fun O=>?_)
   ·exact⟨k7.k6 p0,k7.k6 p1,k7.k6 p2,k7.k6 I,k7.k6 G,k7⟩
   clear hK K
   try simp only[Act.put,sA,sB,sC]
   refine tk 12 ?_;refine tk 13 ?_;refine tk 14 ?_;refine sk 15 ?_;refine sk 16 ?_;refine sk 17 ?_;refine sk 18 ?_;refine sk 19 ?_;refine sk 20 ?_;refine sk 21 ?_;refine sk 22 ?_;refine sk 23 ?_;refine tk 24 ?_;refine wpAnyH_done e8 ?_ _;go_wp2_with fail;go_ret;exact⟨ag (by rw[AE.o];rfl),(T1.o.grow k7).all⟩
  ·rw[hn]at AE;simp only[hn]at OM;clear hn;have U9:=jq nb b9;have Ez:=ae (fun(W:World) (t:Two w W a nb ca b nb cb c nc cc xa xn xc ya yn yc ra rn rc ⟨3,U,rY,J,(v1,v2),u⟩ A B C)=>sU (b:=b) (nb:=nb) (cb:=cb) (c:=c) (nc:=nc) (cc:=cc) (t.grow (Ext.alloc W (.cells (bw (List.replicate nb 0)) 3))).lp.a (t.grow (Ext.alloc W (.cells (bw (List.replicate nb 0)) 3))).lr.A5 (Row.ints (show Row (W.alloc (.cells (bw (List.replicate nb 0)) 3)) W.heap.size 3 (List.replicate nb 0)from heap_alloc_new _ _) e7 (Nat.le_refl nb) b9) (Nat.le_refl _) Gc.o);obtain⟨gv,BO⟩:=b8 (dj A J (List.replicate nb 0));rw[<-BO]at AE;simp only[<-BO]at Ez;clear BO;go_enter Tryz.func63,Tryz.ntmps63
   go_wp2_with fail;refine HV.o.mono ?_;rintro e w1 ⟨rfl,hx⟩;have T1:=ae (T0.o.grow hx);obtain⟨p0,p1,p2⟩:=T1.o.p;obtain⟨q0,I,q2,G,q4,q5⟩:=T1.o.q;clear hx;go_upto_region 31 with fail;have k7:Ext w1 w1.drew:=Ext.drew w1;refine wp_region_held_drew (S:=(fun w'=>w'.cell? ⟨w.heap.size,0,none⟩=some (.slice a nb ca)/\w'.cell? ⟨w.heap.size,1,none⟩=some (.slice b nb cb)/\w'.cell? ⟨w.heap.size,2,none⟩=some (.slice c nc cc)/\w'.cell? ⟨w.heap.size+1,1,none⟩=some (.slice xa xn xc)/\w'.cell? ⟨w.heap.size+1,3,none⟩=some (.slice ra rn rc)/\Ext w1 w')) e8 ?_ (fun O=>?_)
   ·exact⟨k7.k6 p0,k7.k6 p1,k7.k6 p2,k7.k6 I,k7.k6 G,k7⟩
   refine tk 0 ?_;refine tk 1 ?_;refine tk 2 ?_;refine rd (i:=3) (h:=fun K hK=>?_);go_simp
   (go_at_call 111;refine(R.o _ (T1.o.grow k7)).mono ?_;rintro e w3 ⟨rfl,Z⟩;have k7:=k7.trans Z)
   go_wp2_with fail;refine hK.out _ _ ?_ (fun O=>?_)
   ·exact⟨k7.k6 p0,k7.k6 p1,k7.k6 p2,k7.k6 I,k7.k6 G,k7⟩
   clear hK K
   try simp only[Act.put,sA,sB,sC]
   refine tk 4 ?_;refine tk 5 ?_;refine tk 6 ?_;refine tk 7 ?_;refine tk 8 ?_;refine tk 9 ?_;refine tk 10 ?_;refine rd (i:=11) (h:=fun K hK=>?_);go_simp
   (go_at_call 114;refine(OM.o _ (T1.o.grow k7)).mono ?_;rintro e w4 ⟨rfl,xG⟩;have k7:=k7.trans xG)
   go_wp2_with fail;refine hK.out _ _ ?_ (fun O=>?_)
   ·exact⟨k7.k6 p0,k7.k6 p1,k7.k6 p2,k7.k6 I,k7.k6 G,k7⟩
   clear hK K
   try simp only[Act.put,sA,sB,sC]
   refine tk 12 ?_;refine tk 13 ?_;refine tk 14 ?_;refine tk 15 ?_;refine tk 16 ?_;refine tk 17 ?_;refine tk 18 ?_;refine tk 19 ?_;refine tk 20 ?_;have TG:=ae (T1.o.grow k7);have IV:=k7;have k7:=IV.trans (Ext.alloc w4 (.cells (bw (List.replicate nb 0)) 3));refine rd (i:=21) (h:=fun K hK=>?_);go_simp;refine hK.out _ _ ?_ (fun O=>?_)
   ·exact⟨k7.k6 p0,k7.k6 p1,k7.k6 p2,k7.k6 I,k7.k6 G,k7⟩
   clear hK K
   try simp only[Act.put,sA,sB,sC]
   refine rd (i:=22) (h:=fun K hK=>?_);go_simp
   (go_at_call 115;refine(Ez.o _ TG.o).mono ?_;rintro e w5 ⟨rfl,zh⟩;have k7:=k7.trans zh)
   go_wp2_with fail;refine hK.out _ _ ?_ (fun O=>?_)
   ·exact⟨k7.k6 p0,k7.k6 p1,k7.k6 p2,k7.k6 I,k7.k6 G,k7⟩
   clear hK K
   try simp only[Act.put,sA,sB,sC]
   refine tk 23 ?_;refine tk 24 ?_;refine wpAnyH_done e8 ?_ _;have TW:=ae (T1.o.grow k7);clear k7 IV p0 p1 p2 q0 I q2 G q4 q5;obtain⟨p0,p1,p2⟩:=TW.o.p;obtain⟨q0,I,q2,G,q4,q5⟩:=TW.o.q;cases gv
   ·go_wp2_with fail;go_ret;exact⟨ag (by rw[AE.o];rfl),TW.o.all⟩
   ·obtain⟨dx,F6⟩:=b8 (wY C J);have Hg:=ae (fK TW.o.lp.c TW.o.lr.A5);have Kw:=ae (show aD aV A B C ⟨3,U,rY,J,(v1,v2),u⟩=LG dx by rw[AE.o,F6];rfl);rw[<-F6]at Hg;clear F6;cases dx with
    | none =>
      rw[show xN none=((0,0),false)from rfl]at Hg;go_wp2_with fail;refine Hg.o.mono ?_;rintro e w6 ⟨rfl,hx⟩;have TX:=ae ((TW.o.grow hx).grow (Ext.alloc _ (.cells #[.int .i64 0,.int .i64 0] 46)));clear hx;go_wp2_with fail;go_ret;exact⟨ag (by rw[Kw.o];rfl),TX.o.all⟩
    | some v =>
      obtain⟨x1,x2⟩:=v;rw[show xN (some (x1,x2))=((x1,x2),true)from rfl]at Hg;go_wp2_with fail;refine Hg.o.mono ?_;rintro e w6 ⟨rfl,hx⟩;have TX:=ae ((TW.o.grow hx).grow (Ext.alloc _ (.cells #[.int .i64 x1,.int .i64 x2] 46)));clear hx;by_cases wI:x1<0
      ·go_wp2_with fail;go_ret;exact⟨ag (by rw[Kw.o];exact(decide_eq_true wI).symm),TX.o.all⟩
      ·go_wp2_with fail;go_ret;exact⟨ag (by rw[Kw.o];rfl),TX.o.all⟩
theorem vi(h:Cz w a na ca b nb cb c nc cc A B C)(h':Jb w xa xn xc ya yn yc ra rn rc r)(ok:xF A B C=true):
 Calls Tryz.prog 63 #[C8 a na ca b nb cb c nc cc,A6 r xa xn xc ya yn yc ra rn rc] w fun e w'=>e=.returned (.bool (aD aV A B C r))/\Ext w w':=by
 by_cases h1:r.status=1
 ·exact uc h h' ok h1
 by_cases h2:r.status=2
 ·exact ud h h' ok h2
 by_cases h3:r.status=3
 ·exact ue h h' ok h3
 have HE:=ae (show aD aV A B C r=false by unfold aD;rw[if_neg h1,if_neg h2,if_neg h3]);have T0:=ae (show Two w ((w.alloc (bE a na ca b nb cb c nc cc)).alloc (ce r xa xn xc ya yn yc ra rn rc)) a na ca b nb cb c nc cc xa xn xc ya yn yc ra rn rc r A B C from⟨Ext.refl _,(h.ext (Ext.alloc _ _)).ext (Ext.alloc _ _),(h'.ext (Ext.alloc _ _)).ext (Ext.alloc _ _)⟩);have HV:=ae (eF T0.o.lp);rw[ok]at HV;obtain⟨st,rX,rY,rr,G,rp⟩:=r;obtain⟨v1,v2⟩:=G;simp only at h1 h2 h3;have e1:(st == 1)=false:=by simp;omega
 have e2:(st == 2)=false:=by simp;omega
 have e3:(st == 3)=false:=by simp;omega
 clear h h' h1 h2 h3;go_enter Tryz.func63,Tryz.ntmps63
 go_wp2_with fail;refine HV.o.mono ?_;rintro e w1 ⟨rfl,hx⟩;have T1:=ae (T0.o.grow hx);obtain⟨p0,p1,p2⟩:=T1.o.p;obtain⟨q0,q1,q2,q3,q4,q5⟩:=T1.o.q;clear hx;go_wp2_with fail;go_ret;exact⟨ag HE.o.symm,T1.o.all⟩
end
theorem qR{α β:Type}(f:α->β){l:List α}{d:α}(h:k<l.length):(l.take k).map f++[f (l[k]?.getD d)]=(l.take (k+1)).map f:=by
 rw[List.take_succ_eq_append_getElem h,List.map_append,List.getElem?_eq_getElem h];rfl
theorem cj{β:Type}(f:Nat->β)(k:Nat):(List.range k).map f++[f k]=(List.range (k+1)).map f:=by rw[List.range_succ];simp
theorem rI(m i:Nat):nz m i=(List.range m).map fun k=>if k=i then((1:Int),(1:Int)) else(0,1):=rfl
section
variable{w:World}{a:j8}{na ca:Nat}{b:j8}{nb cb:Nat}{c:j8}{nc cc:Nat}{A:j7}{B:j9}{C:j6}
theorem nX(h:Cz w a na ca b nb cb c nc cc A B C)(ok:xF A B C=true):
 Calls Tryz.prog 106 #[C8 a na ca b nb cb c nc cc] w fun e w'=>(∃R vb Z,e=.returned (.agg #[R,vb,.int .i64 (nc:Int)])/\yK w' w.heap.size R vb Z (bF A B nc))/\Ext w w':=by
 obtain⟨r1,r2,r3,r4,r5,r6⟩:=cI h ok;subst r3;have wI:=(Ext.alloc w (bE a nb ca b nb cb c nc cc)).trans (Ext.alloc _ (.cells #[.slice none 0 0,.slice none 0 0,.int .i64 0] 108));obtain⟨W,hW⟩:=b8 ((w.alloc (bE a nb ca b nb cb c nc cc)).alloc (.cells #[.slice none 0 0,.slice none 0 0,.int .i64 0] 108));rw[<-hW]at wI;have wM:=ae wI;have H:=ae (h.ext wI);have HV:=ae (eF H.o);rw[ok]at HV;have yA:=ae (show W.heap[w.heap.size+1]?=some (.cells #[.slice none 0 0,.slice none 0 0,.int .i64 0] 108 (0,0))by rw[hW];exact ak _ _ _ e7);have wQ:=ae (show W.heap[w.heap.size]?=some (.cells #[.slice a nb ca,.slice b nb cb,.slice c nc cc] 52 (0,0))by rw[hW,bX _ _ _ e7];exact ak _ _ _ rfl);have Bc:=ae (show W.heap.size=w.heap.size+1+1 by rw[hW];simp);have Ke:=h.a.o3;have ES:=h.a.l9;have zN:=h.b.o3;have zx:=h.b.l9;have yq:=h.c.o3;have AZ:=h.c.l9;have BL:=ae h.a.hlen;have y4:=ae h.b.hlen;have E8:=ae r4;have Gc:=ae r5;have Et:=ae r6;clear h wI ok r4 r5 r6;go_enter Tryz.func106,Tryz.ntmps106
 go_upto_region 1 with fail;rw[<-hW];clear hW;have p0:=au wQ.o;have p1:=aH wQ.o;have p2:=aI wQ.o;go_wp2_with fail;refine HV.o.mono ?_;rintro e w1 ⟨rfl,hx⟩;have X1:=ae hx;have H1:=ae (H.o.ext hx);clear hx p0 p1 p2;have P0:=ae (au (X1.o.blk wQ.o));have P1:=ae (aH (X1.o.blk wQ.o));have P2:=ae (aI (X1.o.blk wQ.o));have p2:=P2.o;have Cu:w.heap.size+1+1<=w1.heap.size:=by have:=X1.o.size;have:=Bc.o;omega
 obtain⟨E,hE⟩:=b8 (w1.alloc (.cells #[.slice none 0 0,.slice none 0 0,.int .i64 (nc:Int)] 108));have XE:=ae (show Ext w1 E by rw[hE];exact Ext.alloc _ _)
 have Yw:=ae (show BJ E w1.heap.size w1.heap.size (.slice none 0 0) (.slice none 0 0) (nc:Int) [] [] []by
  rw[hE];exact⟨ak _ _ _ rfl,Nat.le_refl _,World.ownsRow_nil _ _ _ 1,dC.nil _ _,o8.nil _ _⟩)
 go_upto_region 4 with fail;rw[<-hE];clear hE p2;have p0:=XE.o.k6 P0.o;go_wp2_with fail
 go_loopg [23] nb (fun gk ii wr=>∃(k:Nat) (R vb:Value) (Z:List Value),b7 (gk+k=nb)/\ii=.int .i64 (k:Int)/\b7 (BJ wr w1.heap.size w1.heap.size R vb (nc:Int) Z ((List.range k).map (cn A B)) ((List.range k).map fun i=>((nc+i:Nat):Int)))/\b7 (Ext w1 wr))
 case atStart=>exact⟨0,_,_,_,ae b9,rfl,Yw,XE⟩
 case round =>
  obtain⟨g1,r7⟩:=b8 gk;subst r7;obtain⟨I,o6⟩:=b8 wr;subst o6;obtain⟨k,R,vb,Z,HK,rfl,T,HX⟩:=hrel;clear p0;have Rj:=HX.o.size;by_cases hlt:k<nb
  ·obtain⟨zb,xJ,ya,yn,yc,Bt,y9,o9⟩:=(H1.o.ext HX.o).a.at hlt;subst Bt;obtain rfl:yn=nc:=by rw[<-o9.hlen];exact E8.o k hlt
   have xM:=o9.o3;have D1:=o9.l9;obtain⟨eb,xi,B2,yT⟩:=H1.o.b.at hlt;subst B2;obtain⟨J,Df⟩:=b8 (B[k]?.getD 0);rw[<-Df]at yT;have Fc:=ae yT;have Zm:=ae Df;have zd:-5000<=J/\J<=5000:=by
    rw[Df,List.getElem?_eq_getElem (by rw[y4.o];exact hlt)];exact Et.o _ (List.getElem_mem _)
   obtain⟨hbb0,hbb1⟩:=zd;obtain⟨G,PL⟩:=b8 (ys J);have HSD:=ae PL;have Mi:(J<0/\G=-1)∨(¬J<0/\G=1):=by rw[PL];exact ei J
   have F3:-1<=G/\G<=1:=by omega
   obtain⟨hsb0,Mj⟩:=F3;have p1:=HX.o.k6 P1.o;have B3:=HX.o.k6 Fc.o;have Ay:=ae o9;clear o9 Df PL yT
   go_upto_if 33 with fail
   go_cut [6] (fun s6 wx=>s6=.int .i64 G/\I=wx)
   case first =>
    rcases Mi with⟨yP,rfl⟩|⟨yP,rfl⟩
    all_goals
     go_wp2_with fail;go_meet;exact⟨rfl,rfl⟩
   obtain⟨rfl,rfl⟩:=hcut;clear Mi;have Ft:=ae (l8.made I I.heap.size (Nat.le_refl _));go_wp2_with fail
   go_loopg [7,37] yn (fun gk oo ii wr=>∃(j:Nat) (a1:j8) (n1 q1:Nat),b7 (gk+j=yn)/\ii=.int .i64 (j:Int)/\oo=.slice a1 n1 q1/\b7 (l8 wr I.heap.size (.slice a1 n1 q1) (((A[k]?.getD []).take j).map fun x=>(G*x,(1:Int))))/\b7 (Ext I wr))
   case atStart=>exact⟨0,_,_,_,ae b9,rfl,rfl,Ft,ae (Ext.alloc _ _)⟩
   case round =>
    obtain⟨g2,xK⟩:=b8 gk;subst xK;obtain⟨wr2,wT⟩:=b8 wr;subst wT;obtain⟨j,a1,n1,q1,HJ,rfl,rfl,xC,xz⟩:=hrel;clear p1 B3 y9;by_cases zt:j<yn
    ·obtain⟨xb,Cc,Hu,wI⟩:=(Ay.o.ext xz.o).at zt;subst Hu;obtain⟨x,hx⟩:=b8 ((A[k]?.getD [])[j]?.getD 0);rw[<-hx]at wI;have OQ:=ae (show j<(A[k]?.getD []).length by rw[E8.o k hlt];exact zt);have PD:-5000<=x/\x<=5000:=by
      rw[hx,List.getElem?_eq_getElem OQ.o];exact(Gc.o k hlt).2 _ (List.getElem_mem _)
     obtain⟨hxb0,hxb1⟩:=PD;have Ds:G*x=x∨G*x=-x∨G*x=0:=by
      have:G=-1∨G=0∨G=1:=by omega
      rcases this with h1|h1|h1<;>subst h1<;>omega
     have Jz:-5000<=G*x/\G*x<=5000:=by rcases Ds with h1|h1|h1<;>rw[h1]<;>omega
     obtain⟨z,hz⟩:=b8 (G*x);have L9:wrap64 (G*x)=z:=by rw[hz];unfold wrap64;omega
     have AU:=ae (show((A[k]?.getD []).take j).map (fun x=>(G*x,(1:Int)))++[(z,1)]=((A[k]?.getD []).take (j+1)).map (fun x=>(G*x,(1:Int)))by
      rw[hz,hx];exact qR (fun x=>(G*x,(1:Int))) OQ.o)
     have zR:=ae (show(((A[k]?.getD []).take j).map (fun x=>(G*x,(1:Int)))).length=j by rw[List.length_map,List.length_take];have:=OQ.o;omega);clear hx hz Ds Jz;go_wp2_with fail;rw[L9];clear L9;refine(cG z _).mono ?_;rintro e w3 ⟨rfl,hx⟩;have X3:=ae (xz.o.trans hx);have xp:=ae (xC.o.ext hx);have CY:=X3.o.size;clear hx
     go_wp2_with (first
      | (at_builtin;refine aG rfl _ _ rfl I.heap.size (.slice a1 n1 q1) _ rfl (xp.o.ext (Ext.alloc _ _)) _ 1 _ [(z,1)] rfl (r8.one' _ _ _ _ _ e7) (by rw[zR.o];omega) (by simp;omega) ?_;intro v5 w5 ho hg l7;have X5:=ae (al (X3.o.trans (Ext.alloc _ _)) hg (fun j hj=>(xp.o.lt j hj).1));obtain⟨a5,n5,p5,rfl,A9⟩:=ho.var;have xL:=ae ho;clear ho hg l7))
     go_roundg (g2-1)
     case measure=>have:=HJ.o;omega
     case rel=>exact⟨j+1,a5,n5,p5,ae (j4 HJ.o),by go_num,rfl,ae (by rw[<-AU.o];exact xL.o),X5⟩
    ·have Ah:yn=j:=by have:=HJ.o;omega
     have Bu:=ae (show l8 wr2 I.heap.size (.slice a1 n1 q1) ((A[k]?.getD []).map (fun x=>(G*x,(1:Int))))by
      have h1:=xC.o
      rw[List.take_of_length_le (by rw[E8.o k hlt];omega)]at h1;exact h1)
     have Fv:=ae (show((A[k]?.getD []).map (fun x=>(G*x,(1:Int)))).length=yn by rw[List.length_map];exact E8.o k hlt);have p0:=(HX.o.trans xz.o).k6 P0.o;have HJN:=ae Ah;clear Ah;go_wp2_with fail
     go_loopg [7,52] nb (fun gk oo ii wr=>∃(i:Nat) (a1:j8) (n1 q1:Nat),b7 (gk+i=nb)/\ii=.int .i64 (i:Int)/\oo=.slice a1 n1 q1/\b7 (l8 wr I.heap.size (.slice a1 n1 q1) ((A[k]?.getD []).map (fun x=>(G*x,(1:Int)))++(List.range i).map fun i=>if i=k then((1:Int),(1:Int)) else(0,1)))/\b7 (Ext I wr))
     case atStart=>exact⟨0,_,_,_,ae b9,rfl,rfl,ae (by simpa using Bu.o),xz⟩
     case round =>
      obtain⟨g3,Dg⟩:=b8 gk;subst Dg;obtain⟨O,A0⟩:=b8 wr;subst A0;obtain⟨i,a3,n3,q3,HI,rfl,rfl,xp,xj⟩:=hrel;clear p0;by_cases Bb:i<nb
      ·have zR:=ae (show((A[k]?.getD []).map (fun x=>(G*x,(1:Int)))++(List.range i).map fun i=>if i=k then((1:Int),(1:Int)) else(0,1)).length=yn+i by rw[List.length_append,Fv.o];simp);obtain⟨un,F2⟩:∃u:Int,u=if i=k then 1 else 0:=⟨_,rfl⟩
       have AU:=ae (show(List.range i).map (fun i=>if i=k then((1:Int),(1:Int)) else(0,1))++[(un,1)]=(List.range (i+1)).map fun i=>if i=k then((1:Int),(1:Int)) else(0,1)by
        rw[<-cj,F2];congr 2;split<;>rfl)
       have DU:((i:Int) == (k:Int))=decide (i=k):=by by_cases h:i=k<;>simp[h]<;>omega
       go_upto_if 57 with fail
       go_cut [11] (fun s11 wx=>s11=.int .i64 un/\O=wx)
       case first =>
        by_cases JC:i=k
        ·have IN:un=1:=by rw[F2,if_pos JC]
         have hd:decide (i=k)=true:=decide_eq_true JC;rw[hd];subst IN;clear F2 JC DU hd;go_wp2_with fail;go_meet;exact⟨rfl,rfl⟩
        ·have IN:un=0:=by rw[F2,if_neg JC]
         have hd:decide (i=k)=false:=decide_eq_false JC;rw[hd];subst IN;clear F2 JC DU hd;go_wp2_with fail;go_meet;exact⟨rfl,rfl⟩
       obtain⟨rfl,rfl⟩:=hcut;clear F2 DU;go_wp2_with fail;refine(cG un _).mono ?_;rintro e w3 ⟨rfl,hx⟩;have X3:=ae (xj.o.trans hx);have yW:=ae (xp.o.ext hx);have CY:=X3.o.size;clear hx
       go_wp2_with (first
        | (at_builtin;refine aG rfl _ _ rfl I.heap.size (.slice a3 n3 q3) _ rfl (yW.o.ext (Ext.alloc _ _)) _ 1 _ [(un,1)] rfl (r8.one' _ _ _ _ _ e7) (by rw[zR.o];omega) (by simp;omega) ?_;intro v5 w5 ho hg l7;have X5:=ae (al (X3.o.trans (Ext.alloc _ _)) hg (fun j hj=>(yW.o.lt j hj).1));obtain⟨a5,n5,p5,rfl,A9⟩:=ho.var;have xL:=ae ho;clear ho hg l7))
       go_roundg (g3-1)
       case measure=>have:=HI.o;omega
       case rel=>exact⟨i+1,a5,n5,p5,ae (j4 HI.o),by go_num,rfl,ae (by have:=xL.o;rw[List.append_assoc,AU.o]at this;exact this),X5⟩
      ·have xR:i=nb:=by have:=HI.o;omega
       subst xR;obtain⟨z2,DA⟩:=b8 (G*J);have Ds:G*J=J∨G*J=-J∨G*J=0:=by
        have:G=-1∨G=0∨G=1:=by omega
        rcases this with h1|h1|h1<;>subst h1<;>omega
       have PE:IntKind.i64.wrap (G*J)=z2:=by
        rw[IntKind.wrap_i64,DA];rcases Ds with h1|h1|h1<;>rw[h1]<;>omega
       have HRE:=ae (show((A[k]?.getD []).map (fun x=>(G*x,(1:Int)))++(List.range i).map fun i=>if i=k then((1:Int),(1:Int)) else(0,1))++[(z2,1)]=cn A B k by
        unfold cn;rw[<-Zm.o,<-HSD.o,DA,BL.o,rI])
       have zR:=ae (show((A[k]?.getD []).map (fun x=>(G*x,(1:Int)))++(List.range i).map fun i=>if i=k then((1:Int),(1:Int)) else(0,1)).length=yn+i by rw[List.length_append,Fv.o];simp);have yD:=ae (show Z.length=k by rw[T.o.rows.len];simp);have t0:=au T.o.box;have p1:=HX.o.k6 P1.o;have B3:=HX.o.k6 Fc.o;have FF:(0:Int)<=(k:Int):=by omega
       have BH:(k:Int)<(i:Int):=by omega
       clear DA Ds;go_upto_region 24 with fail;have Dt:Ext O O.drew:=Ext.drew O;have k7:Ext I O.drew:=xj.o.trans Dt;have k8:=ae (fun(w':World) (h:Ext I w')=>(⟨h.k6 t0,h.k6 p1,h.k6 B3,HX.o.trans h⟩:w'.cell? ⟨w1.heap.size,0,none⟩=some R/\w'.cell? ⟨w.heap.size,1,none⟩=some (.slice (some ⟨eb,xi,none⟩) i cb)/\w'.cell? ⟨eb,xi+k,none⟩=some (.int .i64 J)/\Ext w1 w'));refine du (M:=[16]) (S:=fun w'=>w'.cell? ⟨w1.heap.size,0,none⟩=some R/\w'.cell? ⟨w.heap.size,1,none⟩=some (.slice (some ⟨eb,xi,none⟩) i cb)/\w'.cell? ⟨eb,xi+k,none⟩=some (.int .i64 J)/\Ext w1 w') e8 ?_;have k9:=k8.o _ k7;refine lp 0 ?_;refine ll 1 ?_;refine lp 2 ?_;refine lp 3 ?_;refine lp 4 ?_;refine ll 5 ?_;refine lp 6 ?_;refine lp 7 ?_;refine ll 8 ?_;refine lp 9 ?_;refine bh (i:=10) (oi:=?_) ?_ ?_ ?_ (fun K hK=>?_);rotate_left
       ·simp only[gA,gB,gC];rfl
       ·kernel_rfl
       ·kernel_rfl
       go_simp;go_at_call 18;refine(cG _ _).mono ?_;rintro e w5 ⟨rfl,zh⟩;have Dt:Ext O w5:=Dt.trans zh;have k7:Ext I w5:=k7.trans zh;have A8:=k7.size;go_wp2_with fail;refine hK.out _ _ (fun _=>k8.o _ k7) ?_;have k9:=k8.o _ k7;clear hK K
       try simp only[Act.put,sA,sB,sC]
       refine bh (i:=11) (oi:=?_) ?_ ?_ ?_ (fun K hK=>?_);rotate_left
       ·simp only[gA,gB,gC];rfl
       ·kernel_rfl
       ·kernel_rfl
       go_simp;refine hK.out _ _ (fun _=>k8.o _ (k7.trans (Ext.alloc _ _))) ?_;clear hK K
       try simp only[Act.put,sA,sB,sC]
       refine bh (i:=12) (oi:=?_) ?_ ?_ ?_ (fun K hK=>?_);rotate_left
       ·simp only[gA,gB,gC];rfl
       ·kernel_rfl
       ·kernel_rfl
       refine ek _ _ j0 I.heap.size (.slice a3 n3 q3) _ j0 ((xp.o.ext Dt).ext (Ext.alloc _ _)) _ 1 _ [(z2,1)] j0 (r8.one' _ _ _ _ _ rfl) (by rw[zR.o];omega) (by simp;omega) ?_;intro v6 w6 ho hg l7;obtain⟨a6,n6,q6,rfl,Jg⟩:=ho.var;have BU:=ae ho;have Dd:Ext I w6:=al (k7.trans (Ext.alloc _ _)) hg (fun j hj=>(xp.o.lt j hj).1);have WA:=Dd.size;clear ho hg l7;refine hK.out _ _ (fun _=>k8.o _ Dd) ?_;have k9:=k8.o _ Dd;clear hK K
       try simp only[Act.put,sA,sB,sC]
       refine bh (i:=13) (oi:=?_) ?_ ?_ ?_ (fun K hK=>?_);rotate_left
       ·simp only[gA,gB,gC];rfl
       ·kernel_rfl
       ·kernel_rfl
       go_simp;refine hK.out _ _ (fun _=>k8.o _ (Dd.trans (Ext.alloc _ _))) ?_;clear hK K
       try simp only[Act.put,sA,sB,sC]
       refine bh (i:=14) (oi:=?_) ?_ ?_ ?_ (fun K hK=>?_);rotate_left
       ·simp only[gA,gB,gC];rfl
       ·kernel_rfl
       ·kernel_rfl
       refine eU _ _ j0 w1.heap.size R Z j0 ((T.o.a.ext Dd).ext (Ext.alloc _ _)) _ _ 1 j0 (by simp;rfl) rfl (by rw[yD.o];omega) (by simp;omega) ?_;intro v7 w7 ho hg l7;obtain⟨a7,n7,q7,rfl,E'⟩:=ho.var;have FR:=ae ho;have JV:=ae hg;have zH:=T.o.Ip (Dd.trans (Ext.alloc _ _)) hg;have I':=au zH;have Vo:=dh zH;have Dv:Ext w1 w7:=al ((HX.o.trans Dd).trans (Ext.alloc _ _)) hg (fun j hj=>(T.o.a.lt j hj).1);clear ho hg l7 zH;refine hK.out _ _ (fun _=>And.intro I' (And.intro (Dv.k6 P1.o) (And.intro (Dv.k6 Fc.o) Dv))) ?_;have k9:=And.intro I' (And.intro (Dv.k6 P1.o) (And.intro (Dv.k6 Fc.o) Dv));clear hK K
       try simp only[Act.put,sA,sB,sC]
       refine lp 15 ?_;refine dH (i:=16) (oi:=?_) (w':=?_) ?_ ?_ ?_ ?_ ?_ ?_ ?_;rotate_left 2
       ·simp only[gA,gB,gC];rfl
       ·kernel_rfl
       ·kernel_rfl
       ·exact of_decide_eq_true e8
       ·rfl
       ·go_simp;(try with_reducible rfl)
       try simp only[Act.put,sA,sB,sC]
       refine dL e8 ?_ _;have U:=ae (T.o.DW (Dd.trans (Ext.alloc _ _)) (BU.o.ext (Ext.alloc _ _)) Rj JV.o FR.o);have GM:=ae (Dv.setCell (p:=⟨w1.heap.size,0,none⟩) (Nat.le_refl _) (.slice a7 n7 q7));obtain⟨W8,Il⟩:=b8 (w7.setCell ⟨w1.heap.size,0,none⟩ (.slice a7 n7 q7));rw[<-Il]at U GM;go_upto_region 25 with fail;rw[<-Il];clear Il I' Vo k9;have b1:=aH U.o.box;have b2:=aI U.o.box;have bf:=dh U.o.box;have hl8:=lt_of_block U.o.box;have Ha:=ae (show((List.range k).map fun i=>((yn+i:Nat):Int)).length=k by simp)
       go_wp2_with (first
        | (at_builtin;refine bm rfl _ _ rfl w1.heap.size vb _ rfl (U.o.b.ext (Ext.alloc _ _)) _ 1 _ [(yn:Int)+(k:Int)] rfl (Ints.Ad _ _ _ _ e7) (by rw[Ha.o];omega) (by simp;omega) ?_;intro v9 w9 ho hg l7;obtain⟨a9,n9,q9,rfl,Kr⟩:=ho.var;have Ew:=ae ho;have UG:=ae hg;have zH:=U.o.Io (Ext.alloc _ _) hg;have Vp:=aH zH;have Vn:=dh zH;have Kf:Ext w1 w9:=al (Ext.trans GM.o (Ext.alloc _ _)) hg (fun j hj=>(U.o.b.lt j hj).1);clear ho hg l7 zH))
       have Iu:=ae (U.o.pushB (Ext.alloc _ _) UG.o Ew.o);have F':=ae (Kf.setCell (p:=⟨w1.heap.size,1,none⟩) (Nat.le_refl _) (.slice a9 n9 q9))
       go_roundg (g1-1)
       case measure=>have:=HK.o;omega
       case rel=>exact⟨k+1,_,_,_,ae (j4 HK.o),by go_num,ae (by
        have h1:=Iu.o;rw[HRE.o,cj]at h1;have h2:((List.range k).map fun i=>((yn+i:Nat):Int))++[(yn:Int)+(k:Int)]=(List.range (k+1)).map fun i=>((yn+i:Nat):Int):=by
         rw[<-cj];simp
        rw[h2]at h1
        exact h1),F'⟩
  ·have xQ:nb=k:=by have:=HK.o;omega
   subst xQ;have Je:=ae (show yK I w1.heap.size R vb Z (bF A B nc)by have:=T.o.own;unfold bF;rw[BL.o];exact this);have t0:=au T.o.box;have t1:=aH T.o.box;have t2:=aI T.o.box;obtain⟨a7,n7,c7,rfl,E'⟩:=T.o.a.var;obtain⟨a8,n8,c8,rfl,FT⟩:=T.o.b.var;have xw:=X1.o.trans HX.o;have r0:=au (xw.blk yA.o);have r1:=aH (xw.blk yA.o);have r2:=aI (xw.blk yA.o);have rf:=dh (xw.blk yA.o);have XW:=ae xw;clear xw;go_wp2_with fail;refine bodyPost_ret (v:=.agg #[.slice a7 n7 c7,.slice a8 n8 c8,.int .i64 (nc:Int)]) (by simp[results,Tryz.results106,go_sem,r0,r1,r2,rf]) rfl ⟨⟨_,_,Z,rfl,?_⟩,(wM.o.trans XW.o).A' (Nat.le_succ _) _ _ _⟩;exact(Je.o.yS fun k hk=>cZ _ _ _ _ _ _ b9).mono b9
end
theorem eX(n:Nat)(s:Tb×Nat)(k:Nat):br n s (k+1)=(br n s k).bind fun G=>gl n G k:=rfl
section
variable{n:Nat}{s:Tb×Nat}{k:Nat}{tt:Tb}{lf:Nat}
theorem mI(h:br n s k=some (tt,lf))(hb:tt.basis[k]?.getD 0<n):br n s (k+1)=some (tt,lf):=by
 rw[eX,h,Option.bind_some];unfold gl;rw[if_pos hb]
theorem mH(h:br n s k=some (tt,lf))(hb:¬tt.basis[k]?.getD 0<n)(ha:((tt.row k).take n).all (fun c=>!Al c)=true):br n s (k+1)=some (tt,lf):=by
 rw[eX,h,Option.bind_some];unfold gl;rw[if_neg hb];simp only;rw[dZ ha,if_pos b9]
theorem uS(h:br n s k=some (tt,lf))(hb:¬tt.basis[k]?.getD 0<n){j:Nat}(hj:j<n)(hl:j<(tt.row k).length)(h0:((tt.row k).take j).all (fun c=>!Al c)=true)(h1:Al ((tt.row k)[j]?.getD (0,0))=true)(Xf:lf<=1000):
 br n s (k+1)=(Ar tt (1000-lf) k j).map fun x=>(x.1,1000-x.2):=by
 have hi:bU Al ((tt.row k).take n)=j:=by
  refine fh (d:=(0,0)) (by simp;omega) (by rw[List.take_take,Nat.min_eq_left b9];exact h0) ?_;rw[List.getElem?_take_of_lt hj];exact h1
 rw[eX,h,Option.bind_some];unfold gl;rw[if_neg hb];simp only;rw[hi,if_neg b9];unfold Ar;cases lf with
 | zero=>rw[if_pos b9];rfl
 | succ f =>
   rw[if_neg b9];simp only;cases bo tt k j with
   | none=>rfl
   | some t'=>simp only[Option.map_some];congr 2;omega
theorem mG(h:br n s k=some (tt,lf))(hb:¬tt.basis[k]?.getD 0<n){j:Nat}(hj:j<n)(hl:j<(tt.row k).length)(h0:((tt.row k).take j).all (fun c=>!Al c)=true)(h1:Al ((tt.row k)[j]?.getD (0,0))=true)(G:lf<=1000):
 ((br n s (k+1)).map fun x=>(x.1,1000-x.2))=Ar tt (1000-lf) k j:=by
 rw[uS h hb hj hl h0 h1 G];unfold Ar
 split
 ·rfl
 ·next hn =>
  cases bo tt k j with
  | none=>rfl
  | some t'=>simp only[Option.map_some];congr 2;omega
theorem ki(h:br n s k=none):∀{m:Nat},k<=m->br n s m=none:=by
 intro m hm;obtain⟨d,rfl⟩:∃d,m=k+d:=⟨m-k,by omega⟩;clear hm
 induction d with
 | zero=>exact h
 | succ d ih=>rw[show k+(d+1)=(k+d)+1 by omega,eX,ih];rfl
end
theorem Left.more{S:Nat}{a b c:World}{o:Option (Tb×Nat)}(hx:Ext a b)(h:Left S b c o):Left S a c o:=⟨(Mod.of hx).trans h.1,h.2⟩
theorem pd{p:k5}(hj:j<l.length)(hp:l[j]?.getD (0,0)=p)(h0:(l.take j).all (fun c=>!Al c)=true)(h1:Al p=false):(l.take (j+1)).all (fun c=>!Al c)=true:=by
 rw[dV hj,List.all_append,h0,hp];simp[h1]
theorem Pc(p q:Int):Al (p,q)=!((p == 0)&&(q == 1)):=by unfold Al;rw[Bool.eq_iff_iff];simp
theorem is(cs:j6)(m:Nat):aX cs m=-1∨∃j:Nat,aX cs m=j/\j<m:=by
 unfold aX
 split
 ·exact Or.inl rfl
 ·unfold bU
  split
  ·next i hi =>
   right
   refine⟨i,rfl,?_⟩;have:=(List.findIdx?_eq_some_iff_getElem.1 hi).1;rw[List.length_take]at this;omega
  ·exact Or.inl rfl
theorem pg{m:Nat}{T0:Nat->Nat->Rat}{cost:j6}:∀{f:Nat} {t:Tb} {p:Ph},xY n m T0 t->aJ cost f t=some p->p.wX=-1∨∃j:Nat,p.wX=j/\j<n:=by
 intro f
 induction f with
 | zero =>
   intro t p ht h;unfold aJ at h;cases hc:bS t cost with
   | none=>rw[hc]at h;cases h
   | some cs =>
     rw[hc]at h;simp only at h
     split at h
     ·cases h;exact Or.inl rfl
     ·split at h
      ·cases h;rw[ht.q8];exact is cs n
      ·cases h
 | succ f ih =>
   intro t p ht h;unfold aJ at h;cases hc:bS t cost with
   | none=>rw[hc]at h;cases h
   | some cs =>
     rw[hc]at h;simp only at h
     split at h
     ·cases h;exact Or.inl rfl
     ·split at h
      ·cases h;rw[ht.q8];exact is cs n
      ·cases hp:bo t (bP t (aX cs t.q8)) (aX cs t.q8)with
       | none=>rw[hp]at h;cases h
       | some t'=>rw[hp]at h;exact ih (eT ht hp) h
theorem lV{t:Tb}(h:t.basis[k]?.getD 0<n):ze t n wX (k+1)=(ze t n wX k).set (t.basis[k]?.getD 0).toNat (wR (t.at k wX)):=by simp only[ze];rw[if_pos h]
theorem ol{t:Tb}(h:¬t.basis[k]?.getD 0<n):ze t n wX (k+1)=ze t n wX k:=by simp only[ze];rw[if_neg h]
theorem iF(t:Tb)(n wX:Nat):∀k,(ze t n wX k).length=n
 | 0=>by simp[ze]
 | k+1=>by
   by_cases h:t.basis[k]?.getD 0<n
   ·rw[lV h,List.length_set];exact iF t n wX k
   ·rw[ol h];exact iF t n wX k
theorem wh(t:Tb)(n wX:Nat):ze t n wX 0=(List.replicate n ((0:Int),(1:Int))).set wX (1,1):=by
 simp only[ze]
 apply List.ext_getElem
 ·simp
 ·intro i h1 h2;rw[List.getElem_set];simp only[List.getElem_map,List.getElem_range,List.getElem_replicate];by_cases h:i=wX
  ·rw[if_pos h,if_pos h.symm]
  ·rw[if_neg h,if_neg (fun e=>h e.symm)]
theorem r8.take{cap:Nat}(h:r8 w a n cap l)(hk:k<=n):r8 w a k cap (l.take k) :=
 ⟨by rw[List.length_take,h.hlen];omega,Nat.le_trans hk h.o3,h.l9,fun j hj=>by
  obtain⟨b,off,e,hc⟩:=h.cell j b9;refine⟨b,off,e,fun i hi=>?_⟩;rw[List.getElem?_take_of_lt hi]
  exact hc i b9⟩
structure Cy(w W:World)(g:Nat)(s:Int)(vx vy vr:Value)(p q piv:Int):Prop where
 ext:Ext w W
 hg:w.heap.size<=g
 box:W.heap[g]?=some (.cells #[.int .i64 s,vx,vy,vr,.int .i64 p,.int .i64 q,.int .i64 piv] 56 (0,0))
abbrev Ob:Obj:=.cells #[.int .i64 0,.slice none 0 0,.slice none 0 0,.slice none 0 0,.int .i64 0,.int .i64 0,.int .i64 0] 56
theorem Cy.new(h:Ext w W):Cy w (W.alloc Ob) W.heap.size 0 (.slice none 0 0) (.slice none 0 0) (.slice none 0 0) 0 0 0:=⟨h.trans (Ext.alloc _ _),h.size,ak _ _ _ rfl⟩
theorem Cy.grow{G:World}{g:Nat}{s:Int}{vx vy vr:Value}{p q:Int}(h:Cy w W g s vx vy vr p q piv)(hx:Ext W G):Cy w G g s vx vy vr p q piv:=⟨h.ext.trans hx,h.hg,(hx.block _ (lt_of_block h.box)).trans h.box⟩
theorem Cy.put{g:Nat}{s:Int}{vx vy vr:Value}{p q:Int}(h:Cy w W g s vx vy vr p q piv)(K:Int)(I U J:Value)(R O G:Int):
 Cy w (((((((W.setCell ⟨g,0,none⟩ (.int .i64 K)).setCell ⟨g,1,none⟩ I).setCell ⟨g,2,none⟩ U).setCell ⟨g,3,none⟩ J).setCell ⟨g,4,none⟩ (.int .i64 R)).setCell ⟨g,5,none⟩ (.int .i64 O)).setCell ⟨g,6,none⟩ (.int .i64 G)) g K I U J R O G:=by
 refine⟨((((((h.ext.setCell (p:=⟨g,0,none⟩) h.hg _).setCell (p:=⟨g,1,none⟩) h.hg _).setCell (p:=⟨g,2,none⟩) h.hg _).setCell (p:=⟨g,3,none⟩) h.hg _).setCell (p:=⟨g,4,none⟩) h.hg _).setCell (p:=⟨g,5,none⟩) h.hg _).setCell (p:=⟨g,6,none⟩) h.hg _,h.hg,?_⟩;have b0:=heap_setCell_same W g 0 _ _ (.int .i64 K) h.box;have b1:=heap_setCell_same _ g 1 _ _ I b0;have b2:=heap_setCell_same _ g 2 _ _ U b1;have b3:=heap_setCell_same _ g 3 _ _ J b2;have b4:=heap_setCell_same _ g 4 _ _ (.int .i64 R) b3;have u:=heap_setCell_same _ g 5 _ _ (.int .i64 O) b4;have Z:=heap_setCell_same _ g 6 _ _ (.int .i64 G) u;rw[Z];rfl
section
variable{w W:World}{g:Nat}{s:Int}{vx vy vr:Value}{p q piv:Int}
theorem Cy.c0(h:Cy w W g s vx vy vr p q piv):W.cell? ⟨g,0,none⟩=some (.int .i64 s):=by rw[cell_of_row W g _ _ _ _ h.box];rfl
theorem Cy.c1(h:Cy w W g s vx vy vr p q piv):W.cell? ⟨g,1,none⟩=some vx:=by rw[cell_of_row W g _ _ _ _ h.box];rfl
theorem Cy.c2(h:Cy w W g s vx vy vr p q piv):W.cell? ⟨g,2,none⟩=some vy:=by rw[cell_of_row W g _ _ _ _ h.box];rfl
theorem Cy.c3(h:Cy w W g s vx vy vr p q piv):W.cell? ⟨g,3,none⟩=some vr:=by rw[cell_of_row W g _ _ _ _ h.box];rfl
theorem Cy.c4(h:Cy w W g s vx vy vr p q piv):W.cell? ⟨g,4,none⟩=some (.int .i64 p):=by rw[cell_of_row W g _ _ _ _ h.box];rfl
theorem Cy.c5(h:Cy w W g s vx vy vr p q piv):W.cell? ⟨g,5,none⟩=some (.int .i64 q):=by rw[cell_of_row W g _ _ _ _ h.box];rfl
theorem Cy.c6(h:Cy w W g s vx vy vr p q piv):W.cell? ⟨g,6,none⟩=some (.int .i64 piv):=by rw[cell_of_row W g _ _ _ _ h.box];rfl
theorem Cy.free(h:Cy w W g s vx vy vr p q piv)(k:Nat):W.frozen? ⟨g,k,none⟩=false:=frozen_of_row W g k _ _ h.box
end
theorem Cy.xu(h:Ext (w.alloc Ob).drew w'):Cy w w' w.heap.size 0 (.slice none 0 0) (.slice none 0 0) (.slice none 0 0) 0 0 0 :=
 Cy.grow ⟨(Ext.alloc _ _).trans (Ext.drew _),Nat.le_refl _,heap_alloc_new w _⟩ h
theorem o8.mod{S:Nat}{v:Value}{l:j9}(h:o8 w b v l)(hm:Mod S w w'){c:Array Value}{z:Nat×Nat}(hb:w.heap[S]?=some (.cells c 124 z)):o8 w' b v l :=
 h.keep fun k hk=>hm.block k (h.lt k hk).2 fun e=>(av h hb (by decide)) (by rw[hk,e])
theorem l8.BD{cap:Nat}(h:l8 w b (.slice a n cap) l)(hb:base<=b):On base w (fun W=>r8 W a n cap l) :=
 fun w2 h2=>(h.keep fun k hk=>h2 k (Nat.le_trans hb (h.lt k hk).1) (h.lt k hk).2).wK
theorem l8.Fz{cap:Nat}(h:l8 w b (.slice a n cap) l)(hb:base<=b)(hk:k<=n):On base w (fun W=>r8 W a k cap (l.take k)) :=
 fun G h2=>(h.BD hb G h2).take hk
theorem r8.DY(w:World):r8 w none 0 0 []:=⟨rfl,Nat.le_refl _,by omega,fun k hk=>absurd hk b9⟩
structure Bq(w:World)(base:Nat)(xa:j8)(xn xc:Nat)(ya:j8)(yn yc:Nat)(ra:j8)(rn rc:Nat)(r:AT):Prop where
 x:On base w fun W=>r8 W xa xn xc r.X
 y:On base w fun W=>r8 W ya yn yc r.Y
 A5:On base w fun W=>r8 W ra rn rc r.A5
theorem Bq.here(h:Bq w base xa xn xc ya yn yc ra rn rc r):Jb w xa xn xc ya yn yc ra rn rc r:=⟨h.x.here,h.y.here,h.A5.here⟩
theorem Bq.ext(h:Bq w base xa xn xc ya yn yc ra rn rc r)(hx:Ext w w'):Bq w' base xa xn xc ya yn yc ra rn rc r:=⟨h.x.ext hx,h.y.ext hx,h.A5.ext hx⟩
theorem Bq.keep(h:Bq w base xa xn xc ya yn yc ra rn rc r)(hs:w.heap.size<=w'.heap.size)(hk:∀k,base<=k->k<w.heap.size->w'.heap[k]?=w.heap[k]?):Bq w' base xa xn xc ya yn yc ra rn rc r :=
 ⟨h.x.keep hs hk,h.y.keep hs hk,h.A5.keep hs hk⟩
theorem Bq.mono{base':Nat}(h:Bq w base xa xn xc ya yn yc ra rn rc r)(hb:base'<=base):Bq w base' xa xn xc ya yn yc ra rn rc r:=⟨h.x.mono hb,h.y.mono hb,h.A5.mono hb⟩
theorem Bq.zero(w:World)(base:Nat)(s:Int):Bq w base none 0 0 none 0 0 none 0 0 (be s):=⟨fun w _=>r8.DY w,fun w _=>r8.DY w,fun w _=>r8.DY w⟩
end Go.Proofs.YtalmoolkhcgmmaaGreat
