import Derived.Test.YtdadoignenffgaaGreatDoorEbAllG48
import Derived.Test.YtdadoignenffgaaGreatDoorEbAllG47
set_option linter.unusedVariables false
set_option linter.unusedSimpArgs false
namespace Go.Proofs.YtdadoignenffgaaGreatDoor
variable{w:World}{g:Nat}
set_option maxHeartbeats 16000000
set_option maxRecDepth 100000
open Go.RowKit
theorem xt{v:j8}(hv:o9 v=true):zV v (0,1)<0↔v.1<0:=by
 have hb:=aQ hv;unfold zV;rw[hI (by rw[hv];decide)];simp only;constructor
 ·intro h
  split at h
  ·next h1=>omega
  ·split at h
   ·omega
   ·omega
 ·intro h;rw[hI e7];omega
theorem ul(n m:Nat):Bb (ee n m)=true:=by
 unfold Bb ee;rw[RN,ac3,ac3];have h0:o9 ((0:Int),(1:Int))=true:=by decide
 have h1:o9 ((1:Int),(1:Int))=true:=by decide
 rw[h0,h1];simp
theorem um{C:j4}(h:Bb C=true)(m:Nat):Bb (cz C m)=true:=by
 unfold Bb cz at *;rw[RN,h,ac3];have h0:o9 ((0:Int),(1:Int))=true:=by decide
 rw[h0];simp
def SolW(w:World)(S:Nat)(a:j6)(na ca:Nat)(b:j6)(nb cb:Nat)(c:j6)(nc cc:Nat)(e:Ending)(w':World)(o:Option BQ):Prop :=
 Mod S w w'/\match o with
  | some r=>∃xa xn xc ya yn yc za zn zc,e=.returned (CC ⟨r.status,r.X,r.Y,r.CB,r.value,0⟩ xa xn xc ya yn yc za zn zc)/\Dg w' w.heap.size xa xn xc ya yn yc za zn zc r/\∃ra rn rc ba bn bc vs t n,bS w' S a na ca b nb cb c nc cc ra rn rc ba bn bc vs t n false/\(n:Int)=r.Kf
  | none=>∃r xa xn xc ya yn yc za zn zc,e=.returned (CC r xa xn xc ya yn yc za zn zc)/\∃ra rn rc ba bn bc vs t n,bS w' S a na ca b nb cb c nc cc ra rn rc ba bn bc vs t n true
theorem AJ.AP{base:Nat}{I G:Value}{vs:List Value}{t:Tb}{c:Array Value}{z:Nat×Nat}(h:AJ w base I G vs t)(hb:w.heap[g]?=some (.cells c 72 z))(x0 x1 x2 O x4 K J:Value):
 AJ (((((((w.setCell ⟨g,0,none⟩ x0).setCell ⟨g,1,none⟩ x1).setCell ⟨g,2,none⟩ x2).setCell ⟨g,3,none⟩ O).setCell ⟨g,4,none⟩ x4).setCell ⟨g,5,none⟩ K).setCell ⟨g,6,none⟩ J) base I G vs t:=by
 refine⟨h.a.keep fun k hk=>bU _ ?_ _ _ _ _ _ _ _,h.rows.keep fun i k hi hk=>bU _ ?_ _ _ _ _ _ _ _,h.b.keep fun k hk=>bU _ ?_ _ _ _ _ _ _ _⟩
 ·exact fun e=>(au h.a hb (by decide)) (by rw[hk,e])
 ·exact fun e=>(au (h.rows.row i hi) hb (by decide)) (by rw[hk,e])
 ·exact fun e=>(au h.b hb (by decide)) (by rw[hk,e])
section
variable{w:World}{S:Nat}{a:j6}{na ca:Nat}{b:j6}{nb cb:Nat}{c:j6}{nc cc:Nat}{ra:j6}{rn rc:Nat}{ba:j6}{bn bc:Nat}{vs:List Value}{t:Tb}{n:Nat}{f:Bool}
theorem bS.AP{g:Nat}{cs:Array Value}{z:Nat×Nat}(h:bS w S a na ca b nb cb c nc cc ra rn rc ba bn bc vs t n f)(hb:w.heap[g]?=some (.cells cs 72 z))(x0 x1 x2 J x4 I G:Value):
 bS (((((((w.setCell ⟨g,0,none⟩ x0).setCell ⟨g,1,none⟩ x1).setCell ⟨g,2,none⟩ x2).setCell ⟨g,3,none⟩ J).setCell ⟨g,4,none⟩ x4).setCell ⟨g,5,none⟩ I).setCell ⟨g,6,none⟩ G) S a na ca b nb cb c nc cc ra rn rc ba bn bc vs t n f :=
 ⟨(bU _ (jK h.box hb (by decide)) _ _ _ _ _ _ _).trans h.box,h.tb.AP hb _ _ _ _ _ _ _⟩
end
theorem Mod.AP{S:Nat}{w0:World}(h:Mod S w0 w)(hg:w0.heap.size<=g)(x0 x1 x2 J x4 I G:Value):
 Mod S w0 (((((((w.setCell ⟨g,0,none⟩ x0).setCell ⟨g,1,none⟩ x1).setCell ⟨g,2,none⟩ x2).setCell ⟨g,3,none⟩ J).setCell ⟨g,4,none⟩ x4).setCell ⟨g,5,none⟩ I).setCell ⟨g,6,none⟩ G):=by
 have hx:=Ext.AP (Ext.refl w) (b:=w.heap.size) (ao _) x0 x1 x2 J x4 I G;refine⟨?_,?_,?_,?_,fun k hk hn=>?_⟩
 ·have:=((((((acb g w).setCell (p:=⟨g,0,none⟩) (ao g) x0).setCell (p:=⟨g,1,none⟩) (ao g) x1).setCell (p:=⟨g,2,none⟩) (ao g) x2).setCell (p:=⟨g,3,none⟩) (ao g) J).setCell (p:=⟨g,4,none⟩) (ao g) x4).setCell (p:=⟨g,5,none⟩) (ao g) I |>.setCell (p:=⟨g,6,none⟩) (ao g) G
  exact this.os.trans h.os
 ·have:=((((((acb g w).setCell (p:=⟨g,0,none⟩) (ao g) x0).setCell (p:=⟨g,1,none⟩) (ao g) x1).setCell (p:=⟨g,2,none⟩) (ao g) x2).setCell (p:=⟨g,3,none⟩) (ao g) J).setCell (p:=⟨g,4,none⟩) (ao g) x4).setCell (p:=⟨g,5,none⟩) (ao g) I |>.setCell (p:=⟨g,6,none⟩) (ao g) G
  exact this.tape.trans h.tape
 ·have:=((((((acb g w).setCell (p:=⟨g,0,none⟩) (ao g) x0).setCell (p:=⟨g,1,none⟩) (ao g) x1).setCell (p:=⟨g,2,none⟩) (ao g) x2).setCell (p:=⟨g,3,none⟩) (ao g) J).setCell (p:=⟨g,4,none⟩) (ao g) x4).setCell (p:=⟨g,5,none⟩) (ao g) I |>.setCell (p:=⟨g,6,none⟩) (ao g) G
  exact this.output.trans h.output
 ·have:=h.size;simpa using this
 ·exact(bU _ e7 _ _ _ _ _ _ _).trans (h.block k hk hn)
theorem o0.R2{b0:Nat}{yb I n cap u:Nat}{l:j4}{x y:Int}(h:o0 w b0 (.slice (some ⟨yb,I,none⟩) n cap) l)(hu:u<n)(hl:l[u]?.getD (0,0)=(x,y)):w.cell? ⟨yb,I+u*2,none⟩=some (.int .i64 x)/\w.cell? ⟨yb,I+u*2+1,none⟩=some (.int .i64 y):=by
 obtain⟨yb',Xl,x',y',e,G,h0,h1⟩:=h.zj.at hu;simp only[bA,mq,zz]at e;obtain⟨rfl,rfl⟩:=e;rw[hl]at G;simp only[aaG]at G;obtain⟨rfl,rfl⟩:=G;exact⟨h0,h1⟩
section
variable{w0 w:World}{S:Nat}{a:j6}{na ca:Nat}{b:j6}{cb:Nat}{c:j6}{nc cc:Nat}{A:j5}{B:j7}{C:j4}{ra:j6}{rc:Nat}{ba:j6}{bc:Nat}{vs:List Value}
theorem yO(h0:EA w0 a na ca b na cb c nc cc A B C)(ok:zM A B C=true)(hx:Ext w0 w)(hS:w0.heap.size<=S)(h:bS w S a na ca b na cb c nc cc ra na rc ba na bc vs (bV A B nc) 0 false):
 Calls Tryz.prog 107 #[.pointer (some ⟨S,0,none⟩)] w fun e w'=>SolW w S a na ca b na cb c nc cc e w' (Ct A B C):=by
 have y7:=ae hx;have H0:=ae h0;have J5:=ae h;have hlt:=mr h.box;obtain⟨r1,r2,r3,r4,r5,r6⟩:=cQ h0 ok;have CG:=ae (show A.length=na from h0.a.hlen);have AO:=ae (show B.length=na from h0.b.hlen);have BE:=ae (show C.length=nc from h0.c.hlen);have TI:=ae (show Ak nc na (fun k j=>yY (cL A B k) j) (bV A B nc)by have:=ip ok;rw[BE.o,CG.o]at this;exact this)
 have HVC:=ae (show Bb C=true by
  rw[jQ]at ok;simp only[xf]at ok;exact ok.2.2.2.1)
 have Mq:=h0.a.l8;have Mp:=h0.a.l9;have AS:=h0.b.l8;have AD:=h0.b.l9;have Ba:=h0.c.l8;have CY:=h0.c.l9;obtain⟨W,hW⟩:=b9 (w.alloc Qc);have XW:=ae (show Ext w W by rw[hW];exact Ext.alloc _ _);have Af:=ae (show W.heap[w.heap.size]?=some (.cells #[.int .i64 0,.slice none 0 0,.slice none 0 0,.slice none 0 0,.int .i64 0,.int .i64 0,.int .i64 0] 72 (0,0))by rw[hW];exact ai _ _ _ rfl);have zF:=ae (fun(w':World) (hm:Mod S W w')=>(hm.block _ (mr Af.o) e7).trans Af.o);have EF:=ae (fun(w':World) (hm:Mod S W w')=>H0.o.ext (hm.ext (hx.trans XW.o) hS));have CR:=ae (J5.o.ext XW.o);clear h0 hx h r3 r4 r5 r6 ok;go_enter Tryz.func107,Tryz.ntmps107
 go_upto_region 1 with fail;rw[<-hW];clear hW;obtain⟨Q,l1,l2,c0,c1,c2,c3,c4,U⟩:=CR.o.cells;have Ea:=ae (rh (EF.o W (Mod.refl _ _)) true e7 e7);go_wp2_with fail;refine Ea.o.mono ?_;rintro e w4 ⟨⟨v4,rfl,C5⟩,hx⟩;obtain⟨a4,n4,c4',rfl,HN4⟩:=C5.var;have LU:=ae (CR.o.ext hx);have Ju:n4=nc+na:=by have h1:=HN4.o;simp only[ib,abk,ee,pk,O5]at h1;rw[BE.o]at h1;omega
 have Gr:=ae (ri LU.o TI.o e7 e7 e7 C5 Ju (ul _ _));have Fl:=ae (Mod.of (S:=S) hx);clear C5 hx Ju HN4 Q l1 l2 c0 c1 c2 c3 c4 U;go_wp2_with fail;refine Gr.o.mono ?_;rintro e w5 ⟨Fg,SH,TY,SG,Tm,Vo,Tl,QM,Ok⟩;have D':=ae (Fl.o.trans Fg);obtain⟨o1,Ry⟩:=b9 (aY (ee C.length B.length) 1000 (bV A B C.length));have Oj:aY (ib true C na) (1000-0) (bV A B nc)=o1:=by rw[Ry,BE.o,AO.o];simp only[ib,abk];rw[BE.o]
 rw[Oj]at Ok;have zv:=ae Ry;clear Oj Ry Fg;obtain⟨O,q1,q2,q3,q4,J,I,G⟩:=zN (zF.o _ D'.o);have HMW:=ae ((Mod.of (S:=S) XW.o).trans D'.o);cases o1 with
 | none =>
   obtain⟨v5,col5,t5,n5,rfl,EK⟩:=Ok;have Ei:=ae EK;have FE:=ae (show Ct A B C=none by unfold Ct;rw[<-zv.o];rfl);clear EK;obtain⟨Q,l1,l2,c0,c1,c2,c3,c4,U⟩:=Ei.o.cells;go_wp2_with fail;refine bR (v:=CC (aV 0) none 0 0 none 0 0 none 0 0) (by simp[results,abz,go_sem,O,q1,q2,q3,q4,J,I,G,aV]) rfl ⟨HMW.o.AP (ao _) _ _ _ _ _ _ _,?_⟩;rw[FE.o];exact⟨aV 0,none,0,0,none,0,0,none,0,0,rfl,_,_,_,_,_,_,_,_,_,Ei.o.AP (zF.o _ D'.o) _ _ _ _ _ _ _⟩
 | some p1 =>
   obtain⟨v5,rfl,Fe,EK⟩:=Ok;obtain⟨a5,n5,c5,rfl,CF⟩:=Fe.var;have hinv:=dR (t:=bV A B nc) TI.o (show aY (ee C.length B.length) 1000 (bV A B nc)=some p1 by rw[<-BE.o];exact zv.o.symm);have Ts:=ae hinv.1;have HQC:=ae (eu Ts.o hinv.2.1).1;have W7:=ae hinv.2.2;obtain⟨e1,e2⟩:=bS.same EK Ts.o;have Mr:=e1.symm;have e2':=e2.symm;clear e1 e2;subst Mr;subst e2';have Ei:=ae EK;have zW:=ae Fe;clear EK Fe hinv;obtain⟨u,hu⟩:=b9 (nc+na);have HU:=ae hu;have HN:=ae (show n5=u+1 by have h1:=CF.o;rw[HQC.o.1]at h1;omega);obtain⟨yb,zE,lx,ly,ET,Kr,BG,An⟩:=zW.o.zj.at (show u<n5 by have:=HN.o;omega);subst ET;have EV:=HQC.o.2 u e7;rw[Kr]at EV;have Yr:=zW.o.zj.l8;have Yq:=zW.o.zj.l9;have I9:=ae (show p1.costs[C.length+B.length]?.getD (0,0)=(lx,ly)by rw[BE.o,AO.o,<-HU.o];exact Kr);have Qe:IntKind.i64.wrap ((n5:Int)-1)=(u:Int):=by have:=HN.o;rw[cn];omega
   have GY:(u:Int)<(n5:Int):=by have:=HN.o;omega
   have Mk:(0:Int)<=(u:Int):=by omega
   have Bw:=ae (nL lx ly w5);obtain⟨sg,DQ⟩:=b9 (zV (lx,ly) (0,1));have Eh:=ae (show sg<0↔lx<0 by rw[DQ];exact xt EV);rw[<-DQ]at Bw;obtain⟨Q,l1,l2,c0,c1,c2,c3,c4,U⟩:=Ei.o.cells;clear DQ Kr hu EV;go_wp2_with fail;refine Bw.o.mono ?_;rintro e w6 ⟨rfl,hx⟩;have VJ:=ae (Ei.o.ext hx);have Cf:=ae (zW.o.ext hx);have KK:=ae (D'.o.trans (Mod.of hx));clear hx Qe GY Mk BG An Q l1 l2 c0 c1 c2 c3 c4 U O q1 q2 q3 q4 J I G;obtain⟨Q,l1,l2,c0,c1,c2,c3,c4,U⟩:=VJ.o.cells;obtain⟨O,q1,q2,q3,q4,J,I,G⟩:=zN (zF.o _ KK.o);by_cases Du:sg<0
   ·have Gs:=ae (show Ct A B C=some ⟨2,[],(List.range na).map (dA B (1,1) p1.costs nc),[],(0,0),1000-p1.left⟩by
     unfold Ct;rw[<-zv.o];simp only[G3];rw[I9.o,hI (Eh.o.1 Du),AO.o,BE.o])
    have TC:=ae (tP VJ.o Ts.o.r7 (EF.o _ KK.o).b Mq Mp Cf.o.zj (by have:=HN.o;have:=HU.o;omega) (by have:=HN.o;have:=HU.o;omega) 1);go_wp2_with fail;refine TC.o.mono ?_;rintro e w7 ⟨⟨v7,rfl,Lw⟩,hx⟩;obtain⟨a7,n7,c7,rfl,H9⟩:=Lw.var;have I6:=ae (VJ.o.ext hx);have PU:=ae (KK.o.trans (Mod.of hx));have IJ:=ae Lw;have hs67:=KK.o.size;clear hx Lw Q l1 l2 c0 c1 c2 c3 c4 U O q1 q2 q3 q4 J I G;obtain⟨O,q1,q2,q3,q4,J,I,G⟩:=zN (zF.o _ PU.o);have VW:=ae ((Mod.of (S:=S) XW.o).trans PU.o);have I1:=mr Af.o;go_wp2_with fail;refine bR (v:=CC ⟨2,[],(List.range na).map (dA B (1,1) p1.costs nc),[],(0,0),0⟩ none 0 0 a7 n7 c7 none 0 0) (by simp[results,abz,go_sem,O,q1,q2,q3,q4,J,I,G]) rfl ⟨VW.o.AP (ao _) _ _ _ _ _ _ _,?_⟩;rw[Gs.o];refine⟨none,0,0,a7,n7,c7,none,0,0,rfl,⟨fun W _=>Rats.FW W,?_,fun W _=>Rats.FW W⟩,_,_,_,_,_,_,_,_,_,I6.o.AP (zF.o _ PU.o) _ _ _ _ _ _ _,?_⟩
    ·exact(IJ.o.keep fun i hi=>bU _ (j1 ((IJ.o.lt i hi).1)) _ _ _ _ _ _ _).Dm e7
    ·show((1000-p1.left:Nat):Int)=1000-(p1.left:Int);have:=W7.o;omega
   ·have Gs:=ae (show Ct A B C=(bv nc (p1.t,p1.left) na).bind fun s=>(aY (cz C na) s.2 s.1).map fun p2 =>
     if 0<=p2.zp then⟨3,(A7 p2.t).take nc,[],AY p2.t nc p2.zp.toNat na,(0,0),1000-p2.left⟩
     else⟨1,(A7 p2.t).take nc,(List.range na).map (dA B (0,1) p2.costs nc),[],ze (p2.costs[nc+na]?.getD (0,0)),1000-p2.left⟩by
     unfold Ct;rw[<-zv.o];simp only[G3];rw[I9.o,hD (fun h=>Du (Eh.o.2 h)),AO.o,BE.o])
    have HDR:=ae (yN VJ.o Ts.o e7 e7 e7);have HLF:=ae (show 1000-(1000-p1.left)=p1.left by have:=W7.o;omega);rw[HLF.o]at HDR;go_wp2_with fail;refine HDR.o.mono ?_;rintro e w7 ⟨rfl,Wu,ra7,rn7,rc7,ba7,bn7,bc7,vs7,YL⟩;have PU:=ae (KK.o.trans Wu);clear Wu Q l1 l2 c0 c1 c2 c3 c4 U O q1 q2 q3 q4 J I G;obtain⟨O,q1,q2,q3,q4,J,I,G⟩:=zN (zF.o _ PU.o);have VW:=ae ((Mod.of (S:=S) XW.o).trans PU.o);cases hd:bv nc (p1.t,p1.left) na with
    | none =>
      rw[hd]at YL;obtain⟨t7,n7,KY⟩:=YL;have I6:=ae KY;have FE:=ae (show Ct A B C=none by rw[Gs.o,hd];rfl);clear KY hd;obtain⟨Q,l1,l2,c0,c1,c2,c3,c4,U⟩:=I6.o.cells;go_wp2_with fail;refine bR (v:=CC (aV 0) none 0 0 none 0 0 none 0 0) (by simp[results,abz,go_sem,O,q1,q2,q3,q4,J,I,G,aV]) rfl ⟨VW.o.AP (ao _) _ _ _ _ _ _ _,?_⟩;rw[FE.o];exact⟨aV 0,none,0,0,none,0,0,none,0,0,rfl,_,_,_,_,_,_,_,_,_,I6.o.AP (zF.o _ PU.o) _ _ _ _ _ _ _⟩
    | some st =>
      obtain⟨tt,lf⟩:=st;rw[hd]at YL;have S8:=fG (s:=(p1.t,p1.left)) Ts.o hd;have HT:=ae (show Ak nc na _ tt from S8.1);have YJ:lf<=1000:=by have h1:=S8.2;have h2:=W7.o;simp only at h1;omega
      have HD:=ae hd;have KY:bS w7 S a na ca b na cb c nc cc ra7 rn7 rc7 ba7 bn7 bc7 vs7 tt (1000-lf) false:=YL;obtain⟨e1,e2⟩:=bS.same KY HT.o;have Mr:=e1.symm;have e2':=e2.symm;clear e1 e2 YL;subst Mr;subst e2';have I6:=ae KY;clear KY hd S8;obtain⟨Q,l1,l2,c0,c1,c2,c3,c4,U⟩:=I6.o.cells;have V8:=ae (rh (EF.o _ PU.o) false e7 e7);go_wp2_with fail;refine V8.o.mono ?_;rintro e w8 ⟨⟨v8,rfl,DG⟩,hx⟩;obtain⟨a8,n8,c8,rfl,IL⟩:=DG.var;have LS:=ae (I6.o.ext hx);have HM8:=ae (PU.o.trans (Mod.of hx));have hn8:n8=nc+na:=by have h1:=IL.o;simp only[ib,Bool.false_eq_true,aeZ,cz,pk,O5]at h1;rw[BE.o]at h1;omega
      have PH:=ae (ri LS.o HT.o e7 e7 e7 DG hn8 (um HVC.o _));clear DG hx hn8 IL Q l1 l2 c0 c1 c2 c3 c4 U O q1 q2 q3 q4 J I G;go_wp2_with fail;refine PH.o.mono ?_;rintro e w9 ⟨hm9,ra9,rn9,rc9,ba9,bn9,bc9,vs9,hp9⟩;have HM9:=ae (HM8.o.trans hm9);have Up:=HM8.o.size;obtain⟨o2,D7⟩:=b9 (aY (cz C na) lf tt);have Oj:aY (ib false C na) (1000-(1000-lf)) tt=o2:=by rw[D7,show 1000-(1000-lf)=lf by omega];rfl
      rw[Oj]at hp9;have As:=ae D7
      have Hm:=ae (show Ct A B C=o2.map fun p2=>if 0<=p2.zp then⟨3,(A7 p2.t).take nc,[],AY p2.t nc p2.zp.toNat na,(0,0),1000-p2.left⟩
       else⟨1,(A7 p2.t).take nc,(List.range na).map (dA B (0,1) p2.costs nc),[],ze (p2.costs[nc+na]?.getD (0,0)),1000-p2.left⟩by
       rw[Gs.o,HD.o,G3,D7])
      clear Oj D7 hm9;obtain⟨O,q1,q2,q3,q4,J,I,G⟩:=zN (zF.o _ HM9.o);have HMW9:=ae ((Mod.of (S:=S) XW.o).trans HM9.o);cases o2 with
      | none =>
        obtain⟨v9,col9,t9,n9,rfl,SY⟩:=hp9;have KH:=ae SY;clear SY;obtain⟨Q,l1,l2,c0,c1,c2,c3,c4,U⟩:=KH.o.cells;go_wp2_with fail;refine bR (v:=CC (aV 0) none 0 0 none 0 0 none 0 0) (by simp[results,abz,go_sem,O,q1,q2,q3,q4,J,I,G,aV]) rfl ⟨HMW9.o.AP (ao _) _ _ _ _ _ _ _,?_⟩;rw[Hm.o];exact⟨aV 0,none,0,0,none,0,0,none,0,0,rfl,_,_,_,_,_,_,_,_,_,KH.o.AP (zF.o _ HM9.o) _ _ _ _ _ _ _⟩
      | some p2 =>
        obtain⟨v9,rfl,Ml,SY⟩:=hp9;obtain⟨a9,n9,c9,rfl,PS⟩:=Ml.var;have hinv:=dR HT.o (show aY (cz C na) lf tt=some p2 from As.o.symm);have Ce:=ae hinv.1;have LV:=ae (eu Ce.o hinv.2.1).1;have VM:=ae hinv.2.2;have Es:=qP HT.o (show aY (cz C na) lf tt=some p2 from As.o.symm);obtain⟨e1,e2⟩:=bS.same SY Ce.o;have Mr:=e1.symm;have e2':=e2.symm;clear e1 e2;subst Mr;subst e2';have KH:=ae SY;have FR:=ae Ml;clear SY Ml hinv;have VI:=ae (fun(w':World) (hx:Ext w9 w')=>tI (KH.o.ext hx).tb.CW Ce.o e7 e7)
        have CS:=ae (show(A7 p2.t).length=nc+na by
         unfold A7;rw[hI (Ce.o.ok e7),ji,Ce.o.r7,Ce.o.len];simp)
        obtain⟨qc,Wq⟩:=b9 p2.zp;rw[Tc,<-Wq]at Hm;rw[<-Wq]at Es⊢;have L1:=ae (show n9=u+1 by have h1:=PS.o;rw[LV.o.1]at h1;have:=HU.o;omega);have FD:=ae (show((1000-p2.left:Nat):Int)=1000-(p2.left:Int)by have:=VM.o;omega);obtain⟨Q,l1,l2,c0,c1,c2,c3,c4,U⟩:=KH.o.cells;rw[Ce.o.r7]at c2;have SY:=HM9.o.size;clear Wq;go_upto_region 12 with fail;have k7:Ext w9 w9.drew:=Ext.drew w9;have k8:=ae (fun(w':World) (h:Ext w9 w')=>(⟨h.j9 c0,h.j9 c1,h.j9 c2,h⟩:w'.cell? ⟨S,3,none⟩=some (.slice ra9 na rc9)/\w'.cell? ⟨S,4,none⟩=some (.slice ba9 na bc9)/\w'.cell? ⟨S,5,none⟩=some (.int .i64 (nc:Int))/\Ext w9 w'));refine rN (S:=(fun w'=>w'.cell? ⟨S,3,none⟩=some (.slice ra9 na rc9)/\w'.cell? ⟨S,4,none⟩=some (.slice ba9 na bc9)/\w'.cell? ⟨S,5,none⟩=some (.int .i64 (nc:Int))/\Ext w9 w')) e9 ?_ (fun l7=>?_)
        ·exact k8.o _ k7
        refine tk 0 ?_;refine tk 1 ?_;refine tk 2 ?_;refine tk 3 ?_;refine tk 5 ?_;refine tk 6 ?_;refine tk 7 ?_;refine tk 8 ?_;refine tk 9 ?_;refine rd (i:=4) (h:=fun K hK=>?_);go_simp
        (go_at_call 170;refine(VI.o _ k7).mono ?_;rintro e Ii ⟨⟨v10,rfl,Oq⟩,Im⟩;have Ut:=k7.size;have k7:=k7.trans Im;obtain⟨ax,nx,cx,rfl,PQ⟩:=Oq.var;have hcx1:=Oq.zj.l8;have hcx2:=Oq.zj.l9;have hcx3:(nc:Int)<=(cx:Int):=(by(have h1:=PQ.o;rw[CS.o]at h1;omega)))
        go_wp2_with fail;refine hK.out _ _ ?_ (fun l7=>?_)
        ·exact k8.o _ k7
        clear hK K
        try simp only[Act.put,sA,sB,sC]
        refine tk 10 ?_;refine tk 11 ?_;refine Gh e9 ?_ _;have Sj:=ae (Oq.mono Ut);have PR:=ae (show nc<=nx by have h1:=PQ.o;rw[CS.o]at h1;omega);have JK:=ae (KH.o.ext k7);have Cg:=ae (FR.o.ext k7);have JN:=ae (HM9.o.trans (Mod.of k7));have PT:=ae ((Mod.of (S:=S) XW.o).trans JN.o);clear k7 Oq Q l1 l2 c0 c1 c2 c3 c4 U O q1 q2 q3 q4 J I G hcx1 l7 k8;have I1:=mr Af.o
        rcases Es with hc|⟨jc,hc,YQ⟩
        ·subst hc
         have J6:=ae (show Ct A B C=some ⟨1,(A7 p2.t).take nc,(List.range na).map (dA B (0,1) p2.costs nc),[],ze (p2.costs[nc+na]?.getD (0,0)),1000-p2.left⟩by
          rw[Hm.o,hD e7])
         have TC:=ae (fun(w':World) (hx:Ext Ii w')=>tP (JK.o.ext hx) Ce.o.r7 (EF.o _ (JN.o.trans (Mod.of hx))).b Mq Mp (Cg.o.ext hx).zj (by have:=L1.o;have:=HU.o;omega) (by have:=L1.o;have:=HU.o;omega) 0);obtain⟨Wb,Hq,vx,vy,ET,Kr,BG,An⟩:=Cg.o.zj.at (show u<n9 by have:=L1.o;omega);subst ET;have A4:=LV.o.2 u (j1 HU.o);rw[Kr]at A4;have A4:=aQ A4;have Rl:-9223372036854775807<=vx:=by have:=A4.2.2.1;simp only at this;omega
         have Rk:vx<=9223372036854775807:=by have:=A4.2.2.2;simp only at this;omega
         have HLV2:=ae Kr;have BV:=ae (show ze (p2.costs[nc+na]?.getD (0,0))=(-vx,vy)by rw[<-HU.o,Kr];rfl);have hr9a:=Cg.o.zj.l8;have hr9b:=Cg.o.zj.l9;have Qe:IntKind.i64.wrap ((n9:Int)-1)=(u:Int):=by have:=L1.o;rw[cn];omega
         have GY:(u:Int)<(n9:Int):=by have:=L1.o;omega
         have Mk:(0:Int)<=(u:Int):=by omega
         clear Kr A4;go_upto_region 15 with fail;have k7:Ext Ii Ii.drew:=Ext.drew Ii;have k8:=ae (fun(w':World) (h:Ext Ii w')=>(⟨h.j9 BG,h.j9 An,PT.o.trans (Mod.of h)⟩:w'.cell? ⟨Wb,Hq+u*2,none⟩=some (.int .i64 vx)/\w'.cell? ⟨Wb,Hq+u*2+1,none⟩=some (.int .i64 vy)/\Mod S w w'));refine rN (S:=(fun w'=>w'.cell? ⟨Wb,Hq+u*2,none⟩=some (.int .i64 vx)/\w'.cell? ⟨Wb,Hq+u*2+1,none⟩=some (.int .i64 vy)/\Mod S w w')) e9 ?_ (fun l7=>?_)
         ·exact k8.o _ k7
         refine tk 0 ?_;refine tk 1 ?_;refine tk 2 ?_;refine tk 4 ?_;refine tk 5 ?_;refine tk 6 ?_;refine tk 7 ?_;refine tk 8 ?_;refine tk 9 ?_;refine rd (i:=3) (h:=fun K hK=>?_);go_simp
         (go_at_call 168;refine(TC.o _ k7).mono ?_;rintro e EP ⟨⟨v12,rfl,Kp⟩,B8⟩;have Oe:=k7.size;have k7:=k7.trans B8;obtain⟨a12,Z,c12,rfl,HN12⟩:=Kp.var;have Gt:=ae (Kp.mono Oe);clear Kp)
         go_wp2_with fail;refine hK.out _ _ ?_ (fun l7=>?_)
         ·exact k8.o _ k7
         clear hK K
         try simp only[Act.put,sA,sB,sC]
         refine rd (i:=10) (h:=fun K hK=>?_);go_simp
         (go_at_call 51;refine(fm vx vy _ Rl Rk).mono ?_;rintro e Mh ⟨rfl,NW⟩;have k7:=k7.trans NW;have CT:=ae (Gt.o.ext NW);have HM13:=ae (JN.o.trans (Mod.of k7));have Tx:=ae (PT.o.trans (Mod.of k7));have HC13:=ae (Cg.o.ext k7);obtain⟨O,q1,q2,q3,q4,J,I,G⟩:=zN (zF.o _ HM13.o))
         go_wp2_with fail;refine hK.out _ _ ?_ (fun l7=>?_)
         ·exact k8.o _ k7
         clear hK K
         try simp only[Act.put,sA,sB,sC]
         refine tk 11 ?_
         have aau:=ae (fun(x0 x1 x2 x3 x4 x5 x6:Value)=>(show(fun w'=>w'.cell? ⟨Wb,Hq+u*2,none⟩=some (.int .i64 vx)/\w'.cell? ⟨Wb,Hq+u*2+1,none⟩=some (.int .i64 vy)/\Mod S w w') (((((((Mh.setCell ⟨w.heap.size,0,none⟩ x0).setCell ⟨w.heap.size,1,none⟩ x1).setCell ⟨w.heap.size,2,none⟩ x2).setCell ⟨w.heap.size,3,none⟩ x3).setCell ⟨w.heap.size,4,none⟩ x4).setCell ⟨w.heap.size,5,none⟩ x5).setCell ⟨w.heap.size,6,none⟩ x6)from by
          have hc:=(HC13.o.keep (w':=(((((((Mh.setCell ⟨w.heap.size,0,none⟩ x0).setCell ⟨w.heap.size,1,none⟩ x1).setCell ⟨w.heap.size,2,none⟩ x2).setCell ⟨w.heap.size,3,none⟩ x3).setCell ⟨w.heap.size,4,none⟩ x4).setCell ⟨w.heap.size,5,none⟩ x5).setCell ⟨w.heap.size,6,none⟩ x6)) fun k hk=>bU _ (j1 ((HC13.o.lt k hk).1)) _ _ _ _ _ _ _).R2 (show u<n9 by have:=L1.o;omega) HLV2.o
          exact⟨hc.1,hc.2,Tx.o.AP (ao _) _ _ _ _ _ _ _⟩))
         refine rd (i:=12) (h:=fun K hK=>?_);go_simp;refine hK.out _ _ ?_ (fun l7=>?_)
         ·exact aau.o _ _ _ _ _ _ _
         clear hK K
         try simp only[Act.put,sA,sB,sC]
         refine Gh e9 ?_ _;go_wp2_with fail;refine bR (v:=CC ⟨1,(A7 p2.t).take nc,(List.range na).map (dA B (0,1) p2.costs nc),[],(-vx,vy),0⟩ ax nc cx a12 Z c12 none 0 0) (by simp[results,abz,go_sem,O,q1,q2,q3,q4,J,I,G]) rfl ⟨Tx.o.AP (ao _) _ _ _ _ _ _ _,?_⟩;rw[J6.o,BV.o];refine⟨ax,nc,cx,a12,Z,c12,none,0,0,rfl,⟨?_,?_,fun W _=>Rats.FW W⟩,_,_,_,_,_,_,_,_,_,(JK.o.ext k7).AP (zF.o _ HM13.o) _ _ _ _ _ _ _,FD.o⟩
         ·exact((Sj.o.ext k7).keep fun i hi=>bU _ (j1 ((Sj.o.lt i hi).1)) _ _ _ _ _ _ _).Il e7 PR.o
         ·exact(CT.o.keep fun i hi=>bU _ (by have:=(CT.o.lt i hi).1;have:=JN.o.size;omega) _ _ _ _ _ _ _).Dm (j1 JN.o.size)
        ·subst hc
         have J6:=ae (show Ct A B C=some ⟨3,(A7 p2.t).take nc,[],AY p2.t nc jc na,(0,0),1000-p2.left⟩by
          rw[Hm.o,hI e7,CI])
         have HRY:=ae (QU JK.o Ce.o e7 e7 YQ);go_wp2_with fail;refine HRY.o.mono ?_;rintro e EP ⟨⟨v12,rfl,Kp⟩,B8⟩;obtain⟨a12,Z,c12,rfl,HN12⟩:=Kp.var;have Gt:=ae Kp;have Sd:=ae B8;have L3:=ae (JN.o.trans (Mod.of B8));have aal:=ae (PT.o.trans (Mod.of B8));clear Kp B8;obtain⟨O,q1,q2,q3,q4,J,I,G⟩:=zN (zF.o _ L3.o);go_wp2_with fail;refine bR (v:=CC ⟨3,(A7 p2.t).take nc,[],AY p2.t nc jc na,(0,0),0⟩ ax nc cx none 0 0 a12 Z c12) (by simp[results,abz,go_sem,O,q1,q2,q3,q4,J,I,G]) rfl ⟨aal.o.AP (ao _) _ _ _ _ _ _ _,?_⟩;rw[J6.o];refine⟨ax,nc,cx,none,0,0,a12,Z,c12,rfl,⟨?_,fun W _=>Rats.FW W,?_⟩,_,_,_,_,_,_,_,_,_,(JK.o.ext Sd.o).AP (zF.o _ L3.o) _ _ _ _ _ _ _,FD.o⟩
         ·exact((Sj.o.ext Sd.o).keep fun i hi=>bU _ (j1 ((Sj.o.lt i hi).1)) _ _ _ _ _ _ _).Il e7 PR.o
         ·exact(Gt.o.keep fun i hi=>bU _ (by have:=(Gt.o.lt i hi).1;have:=JN.o.size;omega) _ _ _ _ _ _ _).Dm (j1 JN.o.size)
end
