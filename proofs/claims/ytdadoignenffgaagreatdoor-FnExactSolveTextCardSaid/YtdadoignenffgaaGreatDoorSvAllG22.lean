import Derived.Test.YtdadoignenffgaaGreatDoorSvAllG21
import Derived.Test.YtdadoignenffgaaGreatDoorSvAllG19
import Derived.Outline
set_option linter.unusedVariables false
set_option linter.unusedSimpArgs false
namespace Go.Proofs.YtdadoignenffgaaGreatDoor
variable{l:j4}{k j b n ve base xn xc yn yc rn rc:Nat}{a xa ya ra:j6}{w W w':World}{piv:Int}{r:yu}
set_option maxHeartbeats 16000000
set_option maxRecDepth 100000
open Go.RowKit
section
variable{w:World}{a:j6}{na ca:Nat}{b:j6}{nb cb:Nat}{c:j6}{nc cc:Nat}{A:j5}{B:j7}{C:j4}
 {xa:j6} {xn xc:Nat} {ya:j6} {yn yc:Nat} {ra:j6} {rn rc:Nat} {r:yu}
theorem sH(h:Bf w a na ca b nb cb c nc cc A B C)(h':GM w xa xn xc ya yn yc ra rn rc r)(ok:vG A B C=true)(hs:r.status=3):
 Calls Tryz.prog 130 #[Al a na ca b nb cb c nc cc,zg r xa xn xc ya yn yc ra rn rc] w fun e w'=>e=.returned (.bool (aG am A B C r))/\Ext w w':=by
 obtain⟨r1,r2,r3,r4,r5,r6⟩:=co h ok;subst r3;have T0:=ae (show Two w ((w.alloc (aV a nb ca b nb cb c nc cc)).alloc (bH r xa xn xc ya yn yc ra rn rc)) a nb ca b nb cb c nc cc xa xn xc ya yn yc ra rn rc r A B C from⟨Ext.refl _,(h.ext (Ext.alloc _ _)).ext (Ext.alloc _ _),(h'.ext (Ext.alloc _ _)).ext (Ext.alloc _ _)⟩);have xG:=h'.y.l8;have Bt:=h'.y.o0;have xB:=h.c.l8;have zC:=h.c.o0;have xL:=h.b.l8;have wU:=h.b.o0;have yw:=ae h.c.hlen;have xi:=ae h.b.hlen;have zk:=ae h.a.hlen;have GR:=ae h'.y.hlen;have HE:=ae (show aG am A B C r=(dF A B C.length r.X&&Mo A B C r.zf)by unfold aG;rw[if_neg e7,if_neg e7,if_pos hs]);have zS:=ae r4;have EB:=ae r5;have EH:=ae (fun j=>fZ (A:=A) (fun i hi=>(r5 i (j1 h.a.hlen)).2) j);have GX:=ae r6;obtain⟨st,Q,rY,I,rv,Z⟩:=r;obtain⟨v1,v2⟩:=rv;simp only at hs HE GR;subst hs;have HV:=ae (ee T0.o.lp);rw[ok]at HV;clear h h' r4 r5 r6;have O:=ae (fun(W:World) (t:Two w W a nb ca b nb cb c nc cc xa xn xc ya yn yc ra rn rc ⟨3,Q,rY,I,(v1,v2),Z⟩ A B C)=>js t.lp t.lr.x);rw[ok]at O;simp only[Bool.true_and]at O;have AI:((3:Int) == 1)=false:=by decide
 have yX:((3:Int) == 2)=false:=by decide
 cases hf:dF A B C.length Q
 ·rw[hf]at O HE;clear hf;go_enter Tryz.func130,Tryz.ntmps130
  go_wp2_with fail;refine HV.o.mono ?_;rintro e w1 ⟨rfl,hx⟩;have E:=ae (T0.o.grow hx);obtain⟨p0,p1,p2⟩:=E.o.p;obtain⟨q0,q1,q2,G,q4,q5⟩:=E.o.q;clear hx;go_upto_region 31 with fail;have k7:Ext w1 w1.drew:=Ext.drew w1;refine wp_region_held_drew (S:=(fun w'=>w'.cell? ⟨w.heap.size,0,none⟩=some (.slice a nb ca)/\w'.cell? ⟨w.heap.size,1,none⟩=some (.slice b nb cb)/\w'.cell? ⟨w.heap.size,2,none⟩=some (.slice c nc cc)/\w'.cell? ⟨w.heap.size+1,1,none⟩=some (.slice xa xn xc)/\w'.cell? ⟨w.heap.size+1,3,none⟩=some (.slice ra rn rc)/\Ext w1 w')) e9 ?_ (fun J=>?_)
  ·exact⟨k7.j9 p0,k7.j9 p1,k7.j9 p2,k7.j9 q1,k7.j9 G,k7⟩
  refine tk 0 ?_;refine tk 1 ?_;refine tk 2 ?_;refine rd (i:=3) (h:=fun K hK=>?_);go_simp
  (go_at_call 196;refine(O.o _ (E.o.grow k7)).mono ?_;rintro e w3 ⟨rfl,U⟩;have k7:=k7.trans U)
  go_wp2_with fail;refine hK.out _ _ ?_ (fun J=>?_)
  ·exact⟨k7.j9 p0,k7.j9 p1,k7.j9 p2,k7.j9 q1,k7.j9 G,k7⟩
  clear hK K
  try simp only[Act.put,sA,sB,sC]
  refine tk 4 ?_;refine tk 5 ?_;refine sk 6 ?_;refine sk 7 ?_;refine sk 8 ?_;refine sk 9 ?_;refine sk 10 ?_;refine sk 11 ?_;refine sk 12 ?_;refine tk 13 ?_;refine tk 14 ?_;refine sk 15 ?_;refine sk 16 ?_;refine sk 17 ?_;refine sk 18 ?_;refine sk 19 ?_;refine sk 20 ?_;refine sk 21 ?_;refine sk 22 ?_;refine sk 23 ?_;refine tk 24 ?_;refine wpAnyH_done e9 ?_ _;go_wp2_with fail;go_ret;exact⟨ai (by rw[HE.o];rfl),(E.o.grow k7).all⟩
 ·rw[hf]at O HE;clear hf;have zz:=ae (show aG am A B C ⟨3,Q,rY,I,(v1,v2),Z⟩=((decide (I.length=nc)&&Ax I)&&(dd A I (List.replicate nb 0)&&Jp (vg C I)))by rw[HE.o,rF,yw.o,xi.o,Bool.true_and]);have Sa:=ae (fun(W:World) (t:Two w W a nb ca b nb cb c nc cc xa xn xc ya yn yc ra rn rc ⟨3,Q,rY,I,(v1,v2),Z⟩ A B C)=>jb t.lr.zf nc);cases hn:(decide (I.length=nc)&&Ax I)
  ·rw[hn]at zz;simp only[hn]at Sa;clear hn;go_enter Tryz.func130,Tryz.ntmps130
   go_wp2_with fail;refine HV.o.mono ?_;rintro e w1 ⟨rfl,hx⟩;have E:=ae (T0.o.grow hx);obtain⟨p0,p1,p2⟩:=E.o.p;obtain⟨q0,q1,q2,G,q4,q5⟩:=E.o.q;clear hx;go_upto_region 31 with fail;have k7:Ext w1 w1.drew:=Ext.drew w1;refine wp_region_held_drew (S:=(fun w'=>w'.cell? ⟨w.heap.size,0,none⟩=some (.slice a nb ca)/\w'.cell? ⟨w.heap.size,1,none⟩=some (.slice b nb cb)/\w'.cell? ⟨w.heap.size,2,none⟩=some (.slice c nc cc)/\w'.cell? ⟨w.heap.size+1,1,none⟩=some (.slice xa xn xc)/\w'.cell? ⟨w.heap.size+1,3,none⟩=some (.slice ra rn rc)/\Ext w1 w')) e9 ?_ (fun J=>?_)
   ·exact⟨k7.j9 p0,k7.j9 p1,k7.j9 p2,k7.j9 q1,k7.j9 G,k7⟩
   refine tk 0 ?_;refine tk 1 ?_;refine tk 2 ?_;refine rd (i:=3) (h:=fun K hK=>?_);go_simp
   (go_at_call 196;refine(O.o _ (E.o.grow k7)).mono ?_;rintro e w3 ⟨rfl,U⟩;have k7:=k7.trans U)
   go_wp2_with fail;refine hK.out _ _ ?_ (fun J=>?_)
   ·exact⟨k7.j9 p0,k7.j9 p1,k7.j9 p2,k7.j9 q1,k7.j9 G,k7⟩
   clear hK K
   try simp only[Act.put,sA,sB,sC]
   refine tk 4 ?_;refine tk 5 ?_;refine tk 6 ?_;refine tk 7 ?_;refine tk 8 ?_;refine tk 9 ?_;refine tk 10 ?_;refine rd (i:=11) (h:=fun K hK=>?_);go_simp
   (go_at_call 199;refine(Sa.o _ (E.o.grow k7)).mono ?_;rintro e w4 ⟨rfl,vW⟩;have k7:=k7.trans vW)
   go_wp2_with fail;refine hK.out _ _ ?_ (fun J=>?_)
   ·exact⟨k7.j9 p0,k7.j9 p1,k7.j9 p2,k7.j9 q1,k7.j9 G,k7⟩
   clear hK K
   try simp only[Act.put,sA,sB,sC]
   refine tk 12 ?_;refine tk 13 ?_;refine tk 14 ?_;refine sk 15 ?_;refine sk 16 ?_;refine sk 17 ?_;refine sk 18 ?_;refine sk 19 ?_;refine sk 20 ?_;refine sk 21 ?_;refine sk 22 ?_;refine sk 23 ?_;refine tk 24 ?_;refine wpAnyH_done e9 ?_ _;go_wp2_with fail;go_ret;exact⟨ai (by rw[zz.o];rfl),(E.o.grow k7).all⟩
  ·rw[hn]at zz;simp only[hn]at Sa;clear hn;have M5:=gH nb e7;have CQ:=ae (fun(W:World) (t:Two w W a nb ca b nb cb c nc cc xa xn xc ya yn yc ra rn rc ⟨3,Q,rY,I,(v1,v2),Z⟩ A B C)=>rq (b:=b) (nb:=nb) (cb:=cb) (c:=c) (nc:=nc) (cc:=cc) (t.grow (Ext.alloc W (.cells (bh (List.replicate nb 0)) 3))).lp.a (t.grow (Ext.alloc W (.cells (bh (List.replicate nb 0)) 3))).lr.zf (Row.ints (show Row (W.alloc (.cells (bh (List.replicate nb 0)) 3)) W.heap.size 3 (List.replicate nb 0)from heap_alloc_new _ _) e8 (Nat.le_refl nb) e7) (Nat.le_refl _) EB.o);obtain⟨gv,BV⟩:=b9 (dd A I (List.replicate nb 0));rw[<-BV]at zz;simp only[<-BV]at CQ;clear BV;go_enter Tryz.func130,Tryz.ntmps130
   go_wp2_with fail;refine HV.o.mono ?_;rintro e w1 ⟨rfl,hx⟩;have E:=ae (T0.o.grow hx);obtain⟨p0,p1,p2⟩:=E.o.p;obtain⟨q0,q1,q2,G,q4,q5⟩:=E.o.q;clear hx;go_upto_region 31 with fail;have k7:Ext w1 w1.drew:=Ext.drew w1;refine wp_region_held_drew (S:=(fun w'=>w'.cell? ⟨w.heap.size,0,none⟩=some (.slice a nb ca)/\w'.cell? ⟨w.heap.size,1,none⟩=some (.slice b nb cb)/\w'.cell? ⟨w.heap.size,2,none⟩=some (.slice c nc cc)/\w'.cell? ⟨w.heap.size+1,1,none⟩=some (.slice xa xn xc)/\w'.cell? ⟨w.heap.size+1,3,none⟩=some (.slice ra rn rc)/\Ext w1 w')) e9 ?_ (fun J=>?_)
   ·exact⟨k7.j9 p0,k7.j9 p1,k7.j9 p2,k7.j9 q1,k7.j9 G,k7⟩
   refine tk 0 ?_;refine tk 1 ?_;refine tk 2 ?_;refine rd (i:=3) (h:=fun K hK=>?_);go_simp
   (go_at_call 196;refine(O.o _ (E.o.grow k7)).mono ?_;rintro e w3 ⟨rfl,U⟩;have k7:=k7.trans U)
   go_wp2_with fail;refine hK.out _ _ ?_ (fun J=>?_)
   ·exact⟨k7.j9 p0,k7.j9 p1,k7.j9 p2,k7.j9 q1,k7.j9 G,k7⟩
   clear hK K
   try simp only[Act.put,sA,sB,sC]
   refine tk 4 ?_;refine tk 5 ?_;refine tk 6 ?_;refine tk 7 ?_;refine tk 8 ?_;refine tk 9 ?_;refine tk 10 ?_;refine rd (i:=11) (h:=fun K hK=>?_);go_simp
   (go_at_call 199;refine(Sa.o _ (E.o.grow k7)).mono ?_;rintro e w4 ⟨rfl,vW⟩;have k7:=k7.trans vW)
   go_wp2_with fail;refine hK.out _ _ ?_ (fun J=>?_)
   ·exact⟨k7.j9 p0,k7.j9 p1,k7.j9 p2,k7.j9 q1,k7.j9 G,k7⟩
   clear hK K
   try simp only[Act.put,sA,sB,sC]
   refine tk 12 ?_;refine tk 13 ?_;refine tk 14 ?_;refine tk 15 ?_;refine tk 16 ?_;refine tk 17 ?_;refine tk 18 ?_;refine tk 19 ?_;refine tk 20 ?_;have TG:=ae (E.o.grow k7);have OE:=k7;have k7:=OE.trans (Ext.alloc w4 (.cells (bh (List.replicate nb 0)) 3));refine rd (i:=21) (h:=fun K hK=>?_);go_simp;refine hK.out _ _ ?_ (fun J=>?_)
   ·exact⟨k7.j9 p0,k7.j9 p1,k7.j9 p2,k7.j9 q1,k7.j9 G,k7⟩
   clear hK K
   try simp only[Act.put,sA,sB,sC]
   refine rd (i:=22) (h:=fun K hK=>?_);go_simp
   (go_at_call 200;refine(CQ.o _ TG.o).mono ?_;rintro e w5 ⟨rfl,wX⟩;have k7:=k7.trans wX)
   go_wp2_with fail;refine hK.out _ _ ?_ (fun J=>?_)
   ·exact⟨k7.j9 p0,k7.j9 p1,k7.j9 p2,k7.j9 q1,k7.j9 G,k7⟩
   clear hK K
   try simp only[Act.put,sA,sB,sC]
   refine tk 23 ?_;refine tk 24 ?_;refine wpAnyH_done e9 ?_ _;have TW:=ae (E.o.grow k7);clear k7 OE p0 p1 p2 q0 q1 q2 G q4 q5;obtain⟨p0,p1,p2⟩:=TW.o.p;obtain⟨q0,q1,q2,G,q4,q5⟩:=TW.o.q;cases gv
   ·go_wp2_with fail;go_ret;exact⟨ai (by rw[zz.o];rfl),TW.o.all⟩
   ·obtain⟨dx,Ew⟩:=b9 (vg C I);have FI:=ae (fc TW.o.lp.c TW.o.lr.zf);have ID:=ae (show aG am A B C ⟨3,Q,rY,I,(v1,v2),Z⟩=Jp dx by rw[zz.o,Ew];rfl);rw[<-Ew]at FI;clear Ew;cases dx with
    | none =>
      rw[show vS none=((0,0),false)from rfl]at FI;go_wp2_with fail;refine FI.o.mono ?_;rintro e w6 ⟨rfl,hx⟩;have TX:=ae ((TW.o.grow hx).grow (Ext.alloc _ (.cells #[.int .i64 0,.int .i64 0] 62)));clear hx;go_wp2_with fail;go_ret;exact⟨ai (by rw[ID.o];rfl),TX.o.all⟩
    | some v =>
      obtain⟨x1,x2⟩:=v;rw[show vS (some (x1,x2))=((x1,x2),true)from rfl]at FI;go_wp2_with fail;refine FI.o.mono ?_;rintro e w6 ⟨rfl,hx⟩;have TX:=ae ((TW.o.grow hx).grow (Ext.alloc _ (.cells #[.int .i64 x1,.int .i64 x2] 62)));clear hx;by_cases uS:x1<0
      ·go_wp2_with fail;go_ret;exact⟨ai (by rw[ID.o];exact(decide_eq_true uS).symm),TX.o.all⟩
      ·go_wp2_with fail;go_ret;exact⟨ai (by rw[ID.o];rfl),TX.o.all⟩
theorem tP(h:Bf w a na ca b nb cb c nc cc A B C)(h':GM w xa xn xc ya yn yc ra rn rc r)(ok:vG A B C=true):
 Calls Tryz.prog 130 #[Al a na ca b nb cb c nc cc,zg r xa xn xc ya yn yc ra rn rc] w fun e w'=>e=.returned (.bool (aG am A B C r))/\Ext w w':=by
 by_cases h1:r.status=1
 ·exact sF h h' ok h1
 by_cases h2:r.status=2
 ·exact sG h h' ok h2
 by_cases h3:r.status=3
 ·exact sH h h' ok h3
 have HE:=ae (show aG am A B C r=false by unfold aG;rw[if_neg h1,if_neg h2,if_neg h3]);have G:=ae (show Two w ((w.alloc (aV a na ca b nb cb c nc cc)).alloc (bH r xa xn xc ya yn yc ra rn rc)) a na ca b nb cb c nc cc xa xn xc ya yn yc ra rn rc r A B C from⟨Ext.refl _,(h.ext (Ext.alloc _ _)).ext (Ext.alloc _ _),(h'.ext (Ext.alloc _ _)).ext (Ext.alloc _ _)⟩);have HV:=ae (ee G.o.lp);rw[ok]at HV;obtain⟨st,rX,rY,rr,I,rp⟩:=r;obtain⟨v1,v2⟩:=I;simp only at h1 h2 h3;have e1:(st == 1)=false:=by simp;omega
 have e2:(st == 2)=false:=by simp;omega
 have e3:(st == 3)=false:=by simp;omega
 clear h h' h1 h2 h3;go_enter Tryz.func130,Tryz.ntmps130
 go_wp2_with fail;refine HV.o.mono ?_;rintro e w1 ⟨rfl,hx⟩;have E:=ae (G.o.grow hx);obtain⟨p0,p1,p2⟩:=E.o.p;obtain⟨q0,q1,q2,q3,q4,q5⟩:=E.o.q;clear hx;go_wp2_with fail;go_ret;exact⟨ai HE.o.symm,E.o.all⟩
end
theorem px{α β:Type}(f:α->β){l:List α}{d:α}(h:k<l.length):(l.take k).map f++[f (l[k]?.getD d)]=(l.take (k+1)).map f:=by
 rw[List.take_succ_eq_append_getElem h,List.map_append,List.getElem?_eq_getElem h];rfl
theorem cM{β:Type}(f:Nat->β)(k:Nat):(List.range k).map f++[f k]=(List.range (k+1)).map f:=by rw[List.range_succ];simp
theorem qr(m i:Nat):mh m i=(List.range m).map fun k=>if k=i then((1:Int),(1:Int)) else(0,1):=rfl
section
variable{w:World}{a:j6}{na ca:Nat}{b:j6}{nb cb:Nat}{c:j6}{nc cc:Nat}{A:j5}{B:j7}{C:j4}
theorem mB(h:Bf w a na ca b nb cb c nc cc A B C)(ok:vG A B C=true):
 Calls Tryz.prog 190 #[Al a na ca b nb cb c nc cc] w fun e w'=>(∃U vb vs,e=.returned (.agg #[U,vb,.int .i64 (nc:Int)])/\wS w' w.heap.size U vb vs (bD A B nc))/\Ext w w':=by
 obtain⟨r1,r2,r3,r4,r5,r6⟩:=co h ok;subst r3;have uS:=(Ext.alloc w (aV a nb ca b nb cb c nc cc)).trans (Ext.alloc _ (.cells #[.slice none 0 0,.slice none 0 0,.int .i64 0] 116));obtain⟨W,hW⟩:=b9 ((w.alloc (aV a nb ca b nb cb c nc cc)).alloc (.cells #[.slice none 0 0,.slice none 0 0,.int .i64 0] 116));rw[<-hW]at uS;have uV:=ae uS;have H:=ae (h.ext uS);have HV:=ae (ee H.o);rw[ok]at HV;have wL:=ae (show W.heap[w.heap.size+1]?=some (.cells #[.slice none 0 0,.slice none 0 0,.int .i64 0] 116 (0,0))by rw[hW];exact aj _ _ _ e8);have uW:=ae (show W.heap[w.heap.size]?=some (.cells #[.slice a nb ca,.slice b nb cb,.slice c nc cc] 68 (0,0))by rw[hW,bU _ _ _ e8];exact aj _ _ _ rfl);have zx:=ae (show W.heap.size=w.heap.size+1+1 by rw[hW];simp);have Iu:=h.a.l8;have It:=h.a.o0;have xL:=h.b.l8;have wU:=h.b.o0;have xB:=h.c.l8;have zC:=h.c.o0;have zk:=ae h.a.hlen;have xi:=ae h.b.hlen;have zS:=ae r4;have EB:=ae r5;have Iz:=ae r6;clear h uS ok r4 r5 r6;go_enter Tryz.func190,Tryz.ntmps190
 go_upto_region 1 with fail;rw[<-hW];clear hW;have p0:=al uW.o;have p1:=au uW.o;have p2:=av uW.o;go_wp2_with fail;refine HV.o.mono ?_;rintro e I ⟨rfl,hx⟩;have X1:=ae hx;have H1:=ae (H.o.ext hx);clear hx p0 p1 p2;have P0:=ae (al (X1.o.blk uW.o));have P1:=ae (au (X1.o.blk uW.o));have P2:=ae (av (X1.o.blk uW.o));have p2:=P2.o;have BQ:w.heap.size+1+1<=I.heap.size:=by have:=X1.o.size;have:=zx.o;omega
 obtain⟨E,hE⟩:=b9 (I.alloc (.cells #[.slice none 0 0,.slice none 0 0,.int .i64 (nc:Int)] 116));have XE:=ae (show Ext I E by rw[hE];exact Ext.alloc _ _)
 have Us:=ae (show Ah E I.heap.size I.heap.size (.slice none 0 0) (.slice none 0 0) (nc:Int) [] [] []by
  rw[hE];exact⟨aj _ _ _ rfl,Nat.le_refl _,World.ownsRow_nil _ _ _ 1,di.nil _ _,o5.nil _ _⟩)
 go_upto_region 4 with fail;rw[<-hE];clear hE p2;have p0:=XE.o.j9 P0.o;go_wp2_with fail
 go_loopg [23] nb (fun gk ii wr=>∃(k:Nat) (U vb:Value) (vs:List Value),b7 (gk+k=nb)/\ii=.int .i64 (k:Int)/\b7 (Ah wr I.heap.size I.heap.size U vb (nc:Int) vs ((List.range k).map (cj A B)) ((List.range k).map fun i=>((nc+i:Nat):Int)))/\b7 (Ext I wr))
 case atStart=>exact⟨0,_,_,_,ae e7,rfl,Us,XE⟩
 case round =>
  obtain⟨g1,o6⟩:=b9 gk;subst o6;obtain⟨J,o4⟩:=b9 wr;subst o4;obtain⟨k,U,vb,vs,HK,rfl,T,HX⟩:=hrel;clear p0;have MV:=HX.o.size;by_cases hlt:k<nb
  ·obtain⟨zb,vF,ya,yn,yc,zX,xr,o7⟩:=(H1.o.ext HX.o).a.at hlt;subst zX;obtain rfl:yn=nc:=by rw[<-o7.hlen];exact zS.o k hlt
   have xG:=o7.l8;have Bt:=o7.o0;obtain⟨eb,vd,AD,xj⟩:=H1.o.b.at hlt;subst AD;obtain⟨O,DO⟩:=b9 (B[k]?.getD 0);rw[<-DO]at xj;have N7:=ae xj;have Vg:=ae DO;have xS:-5000<=O/\O<=5000:=by
    rw[DO,List.getElem?_eq_getElem (by rw[xi.o];exact hlt)];exact Iz.o _ (List.getElem_mem _)
   obtain⟨YH,YG⟩:=xS;obtain⟨G,MX⟩:=b9 (yh O);have Hs:=ae MX;have JZ:(O<0/\G=-1)∨(¬O<0/\G=1):=by rw[MX];exact eW O
   have G8:-1<=G/\G<=1:=by omega
   obtain⟨W4,WY⟩:=G8;have p1:=HX.o.j9 P1.o;have AY:=HX.o.j9 N7.o;have ze:=ae o7;clear o7 DO MX xj
   go_upto_if 33 with fail
   go_cut [6] (fun s6 wx=>s6=.int .i64 G/\J=wx)
   case first =>
    rcases JZ with⟨Aa,rfl⟩|⟨Aa,rfl⟩
    all_goals
     go_wp2_with fail;go_meet;exact⟨rfl,rfl⟩
   obtain⟨rfl,rfl⟩:=hcut;clear JZ;have O4:=ae (l9.made J J.heap.size (Nat.le_refl _));go_wp2_with fail
   go_loopg [7,37] yn (fun gk oo ii wr=>∃(j:Nat) (a1:j6) (n1 q1:Nat),b7 (gk+j=yn)/\ii=.int .i64 (j:Int)/\oo=.slice a1 n1 q1/\b7 (l9 wr J.heap.size (.slice a1 n1 q1) (((A[k]?.getD []).take j).map fun x=>(G*x,(1:Int))))/\b7 (Ext J wr))
   case atStart=>exact⟨0,_,_,_,ae e7,rfl,rfl,O4,ae (Ext.alloc _ _)⟩
   case round =>
    obtain⟨g2,wv⟩:=b9 gk;subst wv;obtain⟨wr2,vo⟩:=b9 wr;subst vo;obtain⟨j,a1,n1,q1,HJ,rfl,rfl,vw,vh⟩:=hrel;clear p1 AY xr;by_cases yW:j<yn
    ·obtain⟨xb,II,Om,uS⟩:=(ze.o.ext vh.o).at yW;subst Om;obtain⟨x,hx⟩:=b9 ((A[k]?.getD [])[j]?.getD 0);rw[<-hx]at uS;have L3:=ae (show j<(A[k]?.getD []).length by rw[zS.o k hlt];exact yW);have ML:-5000<=x/\x<=5000:=by
      rw[hx,List.getElem?_eq_getElem L3.o];exact(EB.o k hlt).2 _ (List.getElem_mem _)
     obtain⟨WE,WD⟩:=ML;have Ct:G*x=x∨G*x=-x∨G*x=0:=by
      have:G=-1∨G=0∨G=1:=by omega
      rcases this with h1|h1|h1<;>subst h1<;>omega
     have GC:-5000<=G*x/\G*x<=5000:=by rcases Ct with h1|h1|h1<;>rw[h1]<;>omega
     obtain⟨z,hz⟩:=b9 (G*x);have JM:wrap64 (G*x)=z:=by rw[hz];unfold wrap64;omega
     have xZ:=ae (show((A[k]?.getD []).take j).map (fun x=>(G*x,(1:Int)))++[(z,1)]=((A[k]?.getD []).take (j+1)).map (fun x=>(G*x,(1:Int)))by
      rw[hz,hx];exact px (fun x=>(G*x,(1:Int))) L3.o)
     have xg:=ae (show(((A[k]?.getD []).take j).map (fun x=>(G*x,(1:Int)))).length=j by rw[List.length_map,List.length_take];have:=L3.o;omega);clear hx hz Ct GC;go_wp2_with fail;rw[JM];clear JM;refine(cv z _).mono ?_;rintro e w3 ⟨rfl,hx⟩;have X3:=ae (vh.o.trans hx);have vi:=ae (vw.o.ext hx);have Cs:=X3.o.size;clear hx
     go_wp2_with (first
      | (at_builtin;refine aI rfl _ _ rfl J.heap.size (.slice a1 n1 q1) _ rfl (vi.o.ext (Ext.alloc _ _)) _ 1 _ [(z,1)] rfl (Rats.one' _ _ _ _ _ e8) (by rw[xg.o];omega) (by simp;omega) ?_;intro v5 w5 ho hg l7;have X5:=ae (ak (X3.o.trans (Ext.alloc _ _)) hg (fun j hj=>(vi.o.lt j hj).1));obtain⟨a5,n5,p5,rfl,zj⟩:=ho.var;have vU:=ae ho;clear ho hg l7))
     go_roundg (g2-1)
     case measure=>have:=HJ.o;omega
     case rel=>exact⟨j+1,a5,n5,p5,ae (j1 HJ.o),by go_num,rfl,ae (by rw[<-xZ.o];exact vU.o),X5⟩
    ·have A6:yn=j:=by have:=HJ.o;omega
     have zO:=ae (show l9 wr2 J.heap.size (.slice a1 n1 q1) ((A[k]?.getD []).map (fun x=>(G*x,(1:Int))))by
      have h1:=vw.o
      rw[List.take_of_length_le (by rw[zS.o k hlt];omega)]at h1;exact h1)
     have H7:=ae (show((A[k]?.getD []).map (fun x=>(G*x,(1:Int)))).length=yn by rw[List.length_map];exact zS.o k hlt);have p0:=(HX.o.trans vh.o).j9 P0.o;have HJN:=ae A6;clear A6;go_wp2_with fail
     go_loopg [7,52] nb (fun gk oo ii wr=>∃(i:Nat) (a1:j6) (n1 q1:Nat),b7 (gk+i=nb)/\ii=.int .i64 (i:Int)/\oo=.slice a1 n1 q1/\b7 (l9 wr J.heap.size (.slice a1 n1 q1) ((A[k]?.getD []).map (fun x=>(G*x,(1:Int)))++(List.range i).map fun i=>if i=k then((1:Int),(1:Int)) else(0,1)))/\b7 (Ext J wr))
     case atStart=>exact⟨0,_,_,_,ae e7,rfl,rfl,ae (by simpa using zO.o),vh⟩
     case round =>
      obtain⟨g3,AT⟩:=b9 gk;subst AT;obtain⟨Q,yE⟩:=b9 wr;subst yE;obtain⟨i,a3,n3,q3,HI,rfl,rfl,vi,vk⟩:=hrel;clear p0;by_cases Ar:i<nb
      ·have xg:=ae (show((A[k]?.getD []).map (fun x=>(G*x,(1:Int)))++(List.range i).map fun i=>if i=k then((1:Int),(1:Int)) else(0,1)).length=yn+i by rw[List.length_append,H7.o];simp);obtain⟨un,Bl⟩:∃u:Int,u=if i=k then 1 else 0:=⟨_,rfl⟩
       have xZ:=ae (show(List.range i).map (fun i=>if i=k then((1:Int),(1:Int)) else(0,1))++[(un,1)]=(List.range (i+1)).map fun i=>if i=k then((1:Int),(1:Int)) else(0,1)by
        rw[<-cM,Bl];congr 2;split<;>rfl)
       have Kb:((i:Int) == (k:Int))=decide (i=k):=by by_cases h:i=k<;>simp[h]<;>omega
       go_upto_if 57 with fail
       go_cut [11] (fun s11 wx=>s11=.int .i64 un/\Q=wx)
       case first =>
        by_cases Hf:i=k
        ·have DH:un=1:=by rw[Bl,if_pos Hf]
         have hd:decide (i=k)=true:=decide_eq_true Hf;rw[hd];subst DH;clear Bl Hf Kb hd;go_wp2_with fail;go_meet;exact⟨rfl,rfl⟩
        ·have DH:un=0:=by rw[Bl,if_neg Hf]
         have hd:decide (i=k)=false:=decide_eq_false Hf;rw[hd];subst DH;clear Bl Hf Kb hd;go_wp2_with fail;go_meet;exact⟨rfl,rfl⟩
       obtain⟨rfl,rfl⟩:=hcut;clear Bl Kb;go_wp2_with fail;refine(cv un _).mono ?_;rintro e w3 ⟨rfl,hx⟩;have X3:=ae (vk.o.trans hx);have wV:=ae (vi.o.ext hx);have Cs:=X3.o.size;clear hx
       go_wp2_with (first
        | (at_builtin;refine aI rfl _ _ rfl J.heap.size (.slice a3 n3 q3) _ rfl (wV.o.ext (Ext.alloc _ _)) _ 1 _ [(un,1)] rfl (Rats.one' _ _ _ _ _ e8) (by rw[xg.o];omega) (by simp;omega) ?_;intro v5 w5 ho hg l7;have X5:=ae (ak (X3.o.trans (Ext.alloc _ _)) hg (fun j hj=>(wV.o.lt j hj).1));obtain⟨a5,n5,p5,rfl,zj⟩:=ho.var;have vU:=ae ho;clear ho hg l7))
       go_roundg (g3-1)
       case measure=>have:=HI.o;omega
       case rel=>exact⟨i+1,a5,n5,p5,ae (j1 HI.o),by go_num,rfl,ae (by have:=vU.o;rw[List.append_assoc,xZ.o]at this;exact this),X5⟩
      ·have wq:i=nb:=by have:=HI.o;omega
       subst wq;obtain⟨z2,A4⟩:=b9 (G*O);have Ct:G*O=O∨G*O=-O∨G*O=0:=by
        have:G=-1∨G=0∨G=1:=by omega
        rcases this with h1|h1|h1<;>subst h1<;>omega
       have MM:IntKind.i64.wrap (G*O)=z2:=by
        rw[IntKind.wrap_i64,A4];rcases Ct with h1|h1|h1<;>rw[h1]<;>omega
       have Zy:=ae (show((A[k]?.getD []).map (fun x=>(G*x,(1:Int)))++(List.range i).map fun i=>if i=k then((1:Int),(1:Int)) else(0,1))++[(z2,1)]=cj A B k by
        unfold cj;rw[<-Vg.o,<-Hs.o,A4,zk.o,qr])
       have xg:=ae (show((A[k]?.getD []).map (fun x=>(G*x,(1:Int)))++(List.range i).map fun i=>if i=k then((1:Int),(1:Int)) else(0,1)).length=yn+i by rw[List.length_append,H7.o];simp);have xJ:=ae (show vs.length=k by rw[T.o.rows.len];simp);have t0:=al T.o.box;have p1:=HX.o.j9 P1.o;have AY:=HX.o.j9 N7.o;have BU:(0:Int)<=(k:Int):=by omega
       have yx:(k:Int)<(i:Int):=by omega
       clear A4 Ct;go_upto_region 24 with fail;have Bv:Ext Q Q.drew:=Ext.drew Q;have k7:Ext J Q.drew:=vk.o.trans Bv;have k8:=ae (fun(w':World) (h:Ext J w')=>(⟨h.j9 t0,h.j9 p1,h.j9 AY,HX.o.trans h⟩:w'.cell? ⟨I.heap.size,0,none⟩=some U/\w'.cell? ⟨w.heap.size,1,none⟩=some (.slice (some ⟨eb,vd,none⟩) i cb)/\w'.cell? ⟨eb,vd+k,none⟩=some (.int .i64 O)/\Ext I w'));refine dr (M:=[16]) (S:=fun w'=>w'.cell? ⟨I.heap.size,0,none⟩=some U/\w'.cell? ⟨w.heap.size,1,none⟩=some (.slice (some ⟨eb,vd,none⟩) i cb)/\w'.cell? ⟨eb,vd+k,none⟩=some (.int .i64 O)/\Ext I w') e9 ?_;have k9:=k8.o _ k7;refine lp 0 ?_;refine ll 1 ?_;refine lp 2 ?_;refine lp 3 ?_;refine lp 4 ?_;refine ll 5 ?_;refine lp 6 ?_;refine lp 7 ?_;refine ll 8 ?_;refine lp 9 ?_;refine aW (i:=10) (oi:=?_) ?_ ?_ ?_ (fun K hK=>?_);rotate_left
       ·simp only[gA,gB,gC];rfl
       ·kernel_rfl
       ·kernel_rfl
       go_simp;go_at_call 71;refine(cv _ _).mono ?_;rintro e w5 ⟨rfl,wX⟩;have Bv:Ext Q w5:=Bv.trans wX;have k7:Ext J w5:=k7.trans wX;have Bm:=k7.size;go_wp2_with fail;refine hK.out _ _ (fun _=>k8.o _ k7) ?_;have k9:=k8.o _ k7;clear hK K
       try simp only[Act.put,sA,sB,sC]
       refine aW (i:=11) (oi:=?_) ?_ ?_ ?_ (fun K hK=>?_);rotate_left
       ·simp only[gA,gB,gC];rfl
       ·kernel_rfl
       ·kernel_rfl
       go_simp;refine hK.out _ _ (fun _=>k8.o _ (k7.trans (Ext.alloc _ _))) ?_;clear hK K
       try simp only[Act.put,sA,sB,sC]
       refine aW (i:=12) (oi:=?_) ?_ ?_ ?_ (fun K hK=>?_);rotate_left
       ·simp only[gA,gB,gC];rfl
       ·kernel_rfl
       ·kernel_rfl
       refine cU _ _ j0 J.heap.size (.slice a3 n3 q3) _ j0 ((vi.o.ext Bv).ext (Ext.alloc _ _)) _ 1 _ [(z2,1)] j0 (Rats.one' _ _ _ _ _ rfl) (by rw[xg.o];omega) (by simp;omega) ?_;intro v6 w6 ho hg l7;obtain⟨a6,n6,q6,rfl,Eh⟩:=ho.var;have yT:=ae ho;have Dm:Ext J w6:=ak (k7.trans (Ext.alloc _ _)) hg (fun j hj=>(vi.o.lt j hj).1);have W7:=Dm.size;clear ho hg l7;refine hK.out _ _ (fun _=>k8.o _ Dm) ?_;have k9:=k8.o _ Dm;clear hK K
       try simp only[Act.put,sA,sB,sC]
       refine aW (i:=13) (oi:=?_) ?_ ?_ ?_ (fun K hK=>?_);rotate_left
       ·simp only[gA,gB,gC];rfl
       ·kernel_rfl
       ·kernel_rfl
       go_simp;refine hK.out _ _ (fun _=>k8.o _ (Dm.trans (Ext.alloc _ _))) ?_;clear hK K
       try simp only[Act.put,sA,sB,sC]
       refine aW (i:=14) (oi:=?_) ?_ ?_ ?_ (fun K hK=>?_);rotate_left
       ·simp only[gA,gB,gC];rfl
       ·kernel_rfl
       ·kernel_rfl
       refine eu _ _ j0 I.heap.size U vs j0 ((T.o.a.ext Dm).ext (Ext.alloc _ _)) _ _ 1 j0 (by simp;rfl) rfl (by rw[xJ.o];omega) (by simp;omega) ?_;intro v7 w7 ho hg l7;obtain⟨a7,n7,q7,rfl,DP⟩:=ho.var;have Fj:=ae ho;have Lm:=ae hg;have yi:=T.o.F' (Dm.trans (Ext.alloc _ _)) hg;have LN:=al yi;have VO:=cO yi;have CZ:Ext I w7:=ak ((HX.o.trans Dm).trans (Ext.alloc _ _)) hg (fun j hj=>(T.o.a.lt j hj).1);clear ho hg l7 yi;refine hK.out _ _ (fun _=>And.intro LN (And.intro (CZ.j9 P1.o) (And.intro (CZ.j9 N7.o) CZ))) ?_;have k9:=And.intro LN (And.intro (CZ.j9 P1.o) (And.intro (CZ.j9 N7.o) CZ));clear hK K
       try simp only[Act.put,sA,sB,sC]
       refine lp 15 ?_;refine dH (i:=16) (oi:=?_) (w':=?_) ?_ ?_ ?_ ?_ ?_ ?_ ?_;rotate_left 2
       ·simp only[gA,gB,gC];rfl
       ·kernel_rfl
       ·kernel_rfl
       ·exact of_decide_eq_true e9
       ·rfl
       ·go_simp;(try with_reducible rfl)
       try simp only[Act.put,sA,sB,sC]
       refine dM e9 ?_ _;have Z:=ae (T.o.Ch (Dm.trans (Ext.alloc _ _)) (yT.o.ext (Ext.alloc _ _)) MV Lm.o Fj.o);have K0:=ae (CZ.setCell (p:=⟨I.heap.size,0,none⟩) (Nat.le_refl _) (.slice a7 n7 q7));obtain⟨W8,Qu⟩:=b9 (w7.setCell ⟨I.heap.size,0,none⟩ (.slice a7 n7 q7));rw[<-Qu]at Z K0;go_upto_region 25 with fail;rw[<-Qu];clear Qu LN VO k9;have b1:=au Z.o.box;have b2:=av Z.o.box;have bf:=cO Z.o.box;have hl8:=lt_of_block Z.o.box;have B0:=ae (show((List.range k).map fun i=>((yn+i:Nat):Int)).length=k by simp)
       go_wp2_with (first
        | (at_builtin;refine bv rfl _ _ rfl I.heap.size vb _ rfl (Z.o.b.ext (Ext.alloc _ _)) _ 1 _ [(yn:Int)+(k:Int)] rfl (Ints.zp _ _ _ _ e8) (by rw[B0.o];omega) (by simp;omega) ?_;intro v9 w9 ho hg l7;obtain⟨a9,n9,q9,rfl,LZ⟩:=ho.var;have Dz:=ae ho;have Rm:=ae hg;have yi:=Z.o.Hm (Ext.alloc _ _) hg;have VQ:=au yi;have VN:=cO yi;have Qr:Ext I w9:=ak (Ext.trans K0.o (Ext.alloc _ _)) hg (fun j hj=>(Z.o.b.lt j hj).1);clear ho hg l7 yi))
       have Gg:=ae (Z.o.pushB (Ext.alloc _ _) Rm.o Dz.o);have D7:=ae (Qr.setCell (p:=⟨I.heap.size,1,none⟩) (Nat.le_refl _) (.slice a9 n9 q9))
       go_roundg (g1-1)
       case measure=>have:=HK.o;omega
       case rel=>exact⟨k+1,_,_,_,ae (j1 HK.o),by go_num,ae (by
        have h1:=Gg.o;rw[Zy.o,cM]at h1;have h2:((List.range k).map fun i=>((yn+i:Nat):Int))++[(yn:Int)+(k:Int)]=(List.range (k+1)).map fun i=>((yn+i:Nat):Int):=by
         rw[<-cM];simp
        rw[h2]at h1
        exact h1),D7⟩
  ·have vZ:nb=k:=by have:=HK.o;omega
   subst vZ;have GP:=ae (show wS J I.heap.size U vb vs (bD A B nc)by have:=T.o.own;unfold bD;rw[zk.o];exact this);have t0:=al T.o.box;have t1:=au T.o.box;have t2:=av T.o.box;obtain⟨a7,n7,c7,rfl,DP⟩:=T.o.a.var;obtain⟨a8,n8,c8,rfl,Eg⟩:=T.o.b.var;have xw:=X1.o.trans HX.o;have r0:=al (xw.blk wL.o);have r1:=au (xw.blk wL.o);have r2:=av (xw.blk wL.o);have rf:=cO (xw.blk wL.o);have XW:=ae xw;clear xw;go_wp2_with fail;refine bodyPost_ret (v:=.agg #[.slice a7 n7 c7,.slice a8 n8 c8,.int .i64 (nc:Int)]) (by simp[results,Tryz.results190,go_sem,r0,r1,r2,rf]) rfl ⟨⟨_,_,vs,rfl,?_⟩,(uV.o.trans XW.o).zl (Nat.le_succ _) _ _ _⟩;exact(GP.o.wW fun k hk=>cz _ _ _ _ _ _ e7).mono e7
end
theorem ew(n:Nat)(s:Tb×Nat)(k:Nat):aY n s (k+1)=(aY n s k).bind fun E=>fN n E k:=rfl
section
variable{n:Nat}{s:Tb×Nat}{k:Nat}{tt:Tb}{lf:Nat}
theorem lz(h:aY n s k=some (tt,lf))(hb:tt.basis[k]?.getD 0<n):aY n s (k+1)=some (tt,lf):=by
 rw[ew,h,Option.bind_some];unfold fN;rw[if_pos hb]
theorem lw(h:aY n s k=some (tt,lf))(hb:¬tt.basis[k]?.getD 0<n)(ha:((tt.row k).take n).all (fun c=>!zq c)=true):aY n s (k+1)=some (tt,lf):=by
 rw[ew,h,Option.bind_some];unfold fN;rw[if_neg hb];simp only;rw[dL ha,if_pos e7]
theorem tH(h:aY n s k=some (tt,lf))(hb:¬tt.basis[k]?.getD 0<n){j:Nat}(E:j<n)(hl:j<(tt.row k).length)(h0:((tt.row k).take j).all (fun c=>!zq c)=true)(h1:zq ((tt.row k)[j]?.getD (0,0))=true)(Tk:lf<=1000):
 aY n s (k+1)=(yG tt (1000-lf) k j).map fun x=>(x.1,1000-x.2):=by
 have hi:bX zq ((tt.row k).take n)=j:=by
  refine eH (d:=(0,0)) (by simp;omega) (by rw[List.take_take,Nat.min_eq_left e7];exact h0) ?_;rw[List.getElem?_take_of_lt E];exact h1
 rw[ew,h,Option.bind_some];unfold fN;rw[if_neg hb];simp only;rw[hi,if_neg e7];unfold yG;cases lf with
 | zero=>rw[if_pos e7];rfl
 | succ f =>
   rw[if_neg e7];simp only;cases bo tt k j with
   | none=>rfl
   | some t'=>simp only[Option.map_some];congr 2;omega
theorem lv(h:aY n s k=some (tt,lf))(hb:¬tt.basis[k]?.getD 0<n){j:Nat}(E:j<n)(hl:j<(tt.row k).length)(h0:((tt.row k).take j).all (fun c=>!zq c)=true)(h1:zq ((tt.row k)[j]?.getD (0,0))=true)(G:lf<=1000):
 ((aY n s (k+1)).map fun x=>(x.1,1000-x.2))=yG tt (1000-lf) k j:=by
 rw[tH h hb E hl h0 h1 G];unfold yG
 split
 ·rfl
 ·next hn =>
  cases bo tt k j with
  | none=>rfl
  | some t'=>simp only[Option.map_some];congr 2;omega
theorem jm(h:aY n s k=none):∀{m:Nat},k<=m->aY n s m=none:=by
 intro m hm;obtain⟨d,rfl⟩:∃d,m=k+d:=⟨m-k,by omega⟩;clear hm
 induction d with
 | zero=>exact h
 | succ d ih=>rw[show k+(d+1)=(k+d)+1 by omega,ew,ih];rfl
end
theorem Left.more{S:Nat}{a b c:World}{o:Option (Tb×Nat)}(hx:Ext a b)(h:Left S b c o):Left S a c o:=⟨(Mod.of hx).trans h.1,h.2⟩
theorem nH{p:j8}(E:j<l.length)(hp:l[j]?.getD (0,0)=p)(h0:(l.take j).all (fun c=>!zq c)=true)(h1:zq p=false):(l.take (j+1)).all (fun c=>!zq c)=true:=by
 rw[fs E,List.all_append,h0,hp];simp[h1]
theorem Mw(p q:Int):zq (p,q)=!((p == 0)&&(q == 1)):=by unfold zq;rw[Bool.eq_iff_iff];simp
theorem gM(cs:j4)(m:Nat):aZ cs m=-1∨∃j:Nat,aZ cs m=j/\j<m:=by
 unfold aZ
 split
 ·exact Or.inl rfl
 ·unfold bX
  split
  ·next i hi =>
   right
   refine⟨i,rfl,?_⟩;have:=(List.findIdx?_eq_some_iff_getElem.1 hi).1;rw[List.length_take]at this;omega
  ·exact Or.inl rfl
theorem nN{m:Nat}{E:Nat->Nat->Rat}{cost:j4}:∀{f:Nat} {t:Tb} {p:Ph},wo n m E t->aO cost f t=some p->p.ve=-1∨∃j:Nat,p.ve=j/\j<n:=by
 intro f
 induction f with
 | zero =>
   intro t p ht h;unfold aO at h;cases hc:ch t cost with
   | none=>rw[hc]at h;cases h
   | some cs =>
     rw[hc]at h;simp only at h
     split at h
     ·cases h;exact Or.inl rfl
     ·split at h
      ·cases h;rw[ht.q8];exact gM cs n
      ·cases h
 | succ f ih =>
   intro t p ht h;unfold aO at h;cases hc:ch t cost with
   | none=>rw[hc]at h;cases h
   | some cs =>
     rw[hc]at h;simp only at h
     split at h
     ·cases h;exact Or.inl rfl
     ·split at h
      ·cases h;rw[ht.q8];exact gM cs n
      ·cases hp:bo t (cu t (aZ cs t.q8)) (aZ cs t.q8)with
       | none=>rw[hp]at h;cases h
       | some t'=>rw[hp]at h;exact ih (eQ ht hp) h
theorem kM{t:Tb}(h:t.basis[k]?.getD 0<n):xp t n ve (k+1)=(xp t n ve k).set (t.basis[k]?.getD 0).toNat (uU (t.at k ve)):=by simp only[xp];rw[if_pos h]
theorem mI{t:Tb}(h:¬t.basis[k]?.getD 0<n):xp t n ve (k+1)=xp t n ve k:=by simp only[xp];rw[if_neg h]
theorem gX(t:Tb)(n ve:Nat):∀k,(xp t n ve k).length=n
 | 0=>by simp[xp]
 | k+1=>by
   by_cases h:t.basis[k]?.getD 0<n
   ·rw[kM h,List.length_set];exact gX t n ve k
   ·rw[mI h];exact gX t n ve k
theorem uu(t:Tb)(n ve:Nat):xp t n ve 0=(List.replicate n ((0:Int),(1:Int))).set ve (1,1):=by
 simp only[xp]
 apply List.ext_getElem
 ·simp
 ·intro i h1 h2;rw[List.getElem_set];simp only[List.getElem_map,List.getElem_range,List.getElem_replicate];by_cases h:i=ve
  ·rw[if_pos h,if_pos h.symm]
  ·rw[if_neg h,if_neg (fun e=>h e.symm)]
theorem Rats.take{cap:Nat}(h:Rats w a n cap l)(hk:k<=n):Rats w a k cap (l.take k) :=
 ⟨by rw[List.length_take,h.hlen];omega,Nat.le_trans hk h.l8,h.o0,fun j hj=>by
  obtain⟨b,off,e,hc⟩:=h.cell j e7;refine⟨b,off,e,fun i hi=>?_⟩;rw[List.getElem?_take_of_lt hi]
  exact hc i e7⟩
structure A0(w W:World)(g:Nat)(s:Int)(vx vy vr:Value)(p q piv:Int):Prop where
 ext:Ext w W
 hg:w.heap.size<=g
 box:W.heap[g]?=some (.cells #[.int .i64 s,vx,vy,vr,.int .i64 p,.int .i64 q,.int .i64 piv] 72 (0,0))
abbrev LB:Obj:=.cells #[.int .i64 0,.slice none 0 0,.slice none 0 0,.slice none 0 0,.int .i64 0,.int .i64 0,.int .i64 0] 72
theorem A0.new(h:Ext w W):A0 w (W.alloc LB) W.heap.size 0 (.slice none 0 0) (.slice none 0 0) (.slice none 0 0) 0 0 0:=⟨h.trans (Ext.alloc _ _),h.size,aj _ _ _ rfl⟩
theorem A0.grow{E:World}{g:Nat}{s:Int}{vx vy vr:Value}{p q:Int}(h:A0 w W g s vx vy vr p q piv)(hx:Ext W E):A0 w E g s vx vy vr p q piv:=⟨h.ext.trans hx,h.hg,(hx.block _ (lt_of_block h.box)).trans h.box⟩
theorem A0.put{g:Nat}{s:Int}{vx vy vr:Value}{p q:Int}(h:A0 w W g s vx vy vr p q piv)(G:Int)(O Q K:Value)(J I E:Int):
 A0 w (((((((W.setCell ⟨g,0,none⟩ (.int .i64 G)).setCell ⟨g,1,none⟩ O).setCell ⟨g,2,none⟩ Q).setCell ⟨g,3,none⟩ K).setCell ⟨g,4,none⟩ (.int .i64 J)).setCell ⟨g,5,none⟩ (.int .i64 I)).setCell ⟨g,6,none⟩ (.int .i64 E)) g G O Q K J I E:=by
 refine⟨((((((h.ext.setCell (p:=⟨g,0,none⟩) h.hg _).setCell (p:=⟨g,1,none⟩) h.hg _).setCell (p:=⟨g,2,none⟩) h.hg _).setCell (p:=⟨g,3,none⟩) h.hg _).setCell (p:=⟨g,4,none⟩) h.hg _).setCell (p:=⟨g,5,none⟩) h.hg _).setCell (p:=⟨g,6,none⟩) h.hg _,h.hg,?_⟩;have b0:=heap_setCell_same W g 0 _ _ (.int .i64 G) h.box;have b1:=heap_setCell_same _ g 1 _ _ O b0;have b2:=heap_setCell_same _ g 2 _ _ Q b1;have b3:=heap_setCell_same _ g 3 _ _ K b2;have b4:=heap_setCell_same _ g 4 _ _ (.int .i64 J) b3;have Z:=heap_setCell_same _ g 5 _ _ (.int .i64 I) b4;have U:=heap_setCell_same _ g 6 _ _ (.int .i64 E) Z;rw[U];rfl
section
variable{w W:World}{g:Nat}{s:Int}{vx vy vr:Value}{p q piv:Int}
theorem A0.c0(h:A0 w W g s vx vy vr p q piv):W.cell? ⟨g,0,none⟩=some (.int .i64 s):=by rw[cell_of_row W g _ _ _ _ h.box];rfl
theorem A0.c1(h:A0 w W g s vx vy vr p q piv):W.cell? ⟨g,1,none⟩=some vx:=by rw[cell_of_row W g _ _ _ _ h.box];rfl
theorem A0.c2(h:A0 w W g s vx vy vr p q piv):W.cell? ⟨g,2,none⟩=some vy:=by rw[cell_of_row W g _ _ _ _ h.box];rfl
theorem A0.c3(h:A0 w W g s vx vy vr p q piv):W.cell? ⟨g,3,none⟩=some vr:=by rw[cell_of_row W g _ _ _ _ h.box];rfl
theorem A0.c4(h:A0 w W g s vx vy vr p q piv):W.cell? ⟨g,4,none⟩=some (.int .i64 p):=by rw[cell_of_row W g _ _ _ _ h.box];rfl
theorem A0.c5(h:A0 w W g s vx vy vr p q piv):W.cell? ⟨g,5,none⟩=some (.int .i64 q):=by rw[cell_of_row W g _ _ _ _ h.box];rfl
theorem A0.c6(h:A0 w W g s vx vy vr p q piv):W.cell? ⟨g,6,none⟩=some (.int .i64 piv):=by rw[cell_of_row W g _ _ _ _ h.box];rfl
theorem A0.free(h:A0 w W g s vx vy vr p q piv)(k:Nat):W.frozen? ⟨g,k,none⟩=false:=frozen_of_row W g k _ _ h.box
end
theorem A0.vm(h:Ext (w.alloc LB).drew w'):A0 w w' w.heap.size 0 (.slice none 0 0) (.slice none 0 0) (.slice none 0 0) 0 0 0 :=
 A0.grow ⟨(Ext.alloc _ _).trans (Ext.drew _),Nat.le_refl _,heap_alloc_new w _⟩ h
theorem o5.mod{S:Nat}{v:Value}{l:j7}(h:o5 w b v l)(hm:Mod S w w'){c:Array Value}{z:Nat×Nat}(hb:w.heap[S]?=some (.cells c 182 z)):o5 w' b v l :=
 h.keep fun k hk=>hm.block k (h.lt k hk).2 fun e=>(an h hb (by decide)) (by rw[hk,e])
theorem l9.zV{cap:Nat}(h:l9 w b (.slice a n cap) l)(hb:base<=b):On base w (fun W=>Rats W a n cap l) :=
 fun w2 h2=>(h.keep fun k hk=>h2 k (Nat.le_trans hb (h.lt k hk).1) (h.lt k hk).2).uZ
theorem l9.DY{cap:Nat}(h:l9 w b (.slice a n cap) l)(hb:base<=b)(hk:k<=n):On base w (fun W=>Rats W a k cap (l.take k)) :=
 fun E h2=>(h.zV hb E h2).take hk
theorem Rats.Ci(w:World):Rats w none 0 0 []:=⟨rfl,Nat.le_refl _,by omega,fun k hk=>absurd hk e7⟩
structure zN(w:World)(base:Nat)(xa:j6)(xn xc:Nat)(ya:j6)(yn yc:Nat)(ra:j6)(rn rc:Nat)(r:yu):Prop where
 x:On base w fun W=>Rats W xa xn xc r.X
 y:On base w fun W=>Rats W ya yn yc r.Y
 zf:On base w fun W=>Rats W ra rn rc r.zf
theorem zN.here(h:zN w base xa xn xc ya yn yc ra rn rc r):GM w xa xn xc ya yn yc ra rn rc r:=⟨h.x.here,h.y.here,h.zf.here⟩
theorem zN.ext(h:zN w base xa xn xc ya yn yc ra rn rc r)(hx:Ext w w'):zN w' base xa xn xc ya yn yc ra rn rc r:=⟨h.x.ext hx,h.y.ext hx,h.zf.ext hx⟩
theorem zN.keep(h:zN w base xa xn xc ya yn yc ra rn rc r)(hs:w.heap.size<=w'.heap.size)(hk:∀k,base<=k->k<w.heap.size->w'.heap[k]?=w.heap[k]?):zN w' base xa xn xc ya yn yc ra rn rc r :=
 ⟨h.x.keep hs hk,h.y.keep hs hk,h.zf.keep hs hk⟩
theorem zN.mono{base':Nat}(h:zN w base xa xn xc ya yn yc ra rn rc r)(hb:base'<=base):zN w base' xa xn xc ya yn yc ra rn rc r:=⟨h.x.mono hb,h.y.mono hb,h.zf.mono hb⟩
theorem zN.zero(w:World)(base:Nat)(s:Int):zN w base none 0 0 none 0 0 none 0 0 (aM s):=⟨fun w _=>Rats.Ci w,fun w _=>Rats.Ci w,fun w _=>Rats.Ci w⟩
end Go.Proofs.YtdadoignenffgaaGreatDoor
