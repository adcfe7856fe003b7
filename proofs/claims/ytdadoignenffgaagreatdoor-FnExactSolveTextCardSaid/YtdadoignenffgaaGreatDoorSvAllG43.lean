import Derived.Test.YtdadoignenffgaaGreatDoorSvAllG42
import Derived.Test.YtdadoignenffgaaGreatDoorSvAllG41
set_option linter.unusedVariables false
set_option linter.unusedSimpArgs false
namespace Go.Proofs.YtdadoignenffgaaGreatDoor
variable{w:World}{g:Nat}
set_option maxHeartbeats 16000000
set_option maxRecDepth 100000
open Go.RowKit
theorem tB{v:j8}(hv:o9 v=true):vP v (0,1)<0↔v.1<0:=by
 have hb:=aL hv;unfold vP;rw[if_pos (by rw[hv];decide)];simp only;constructor
 ·intro h
  split at h
  ·next h1=>omega
  ·split at h
   ·omega
   ·omega
 ·intro h;rw[if_pos e7];omega
theorem qu(n m:Nat):xC (dI n m)=true:=by
 unfold xC dI;rw[List.all_append,List.all_replicate,List.all_replicate];have h0:o9 ((0:Int),(1:Int))=true:=by decide
 have h1:o9 ((1:Int),(1:Int))=true:=by decide
 rw[h0,h1];simp
theorem qv{C:j4}(h:xC C=true)(m:Nat):xC (bY C m)=true:=by
 unfold xC bY at *;rw[List.all_append,h,List.all_replicate];have h0:o9 ((0:Int),(1:Int))=true:=by decide
 rw[h0];simp
def Ze(w:World)(S:Nat)(a:j6)(na ca:Nat)(b:j6)(nb cb:Nat)(c:j6)(nc cc:Nat)(e:Ending)(w':World)(o:Option yu):Prop :=
 Mod S w w'/\match o with
  | some r=>∃xa xn xc ya yn yc za zn zc,e=.returned (zg ⟨r.status,r.X,r.Y,r.zf,r.value,0⟩ xa xn xc ya yn yc za zn zc)/\zN w' w.heap.size xa xn xc ya yn yc za zn zc r/\∃ra rn rc ba bn bc vs t n,bz w' S a na ca b nb cb c nc cc ra rn rc ba bn bc vs t n false/\(n:Int)=r.FP
  | none=>∃r xa xn xc ya yn yc za zn zc,e=.returned (zg r xa xn xc ya yn yc za zn zc)/\∃ra rn rc ba bn bc vs t n,bz w' S a na ca b nb cb c nc cc ra rn rc ba bn bc vs t n true
theorem wS.wY{base:Nat}{G E:Value}{vs:List Value}{t:Tb}{c:Array Value}{z:Nat×Nat}(h:wS w base G E vs t)(hb:w.heap[g]?=some (.cells c 72 z))(x0 x1 x2 K x4 J I:Value):
 wS (((((((w.setCell ⟨g,0,none⟩ x0).setCell ⟨g,1,none⟩ x1).setCell ⟨g,2,none⟩ x2).setCell ⟨g,3,none⟩ K).setCell ⟨g,4,none⟩ x4).setCell ⟨g,5,none⟩ J).setCell ⟨g,6,none⟩ I) base G E vs t:=by
 refine⟨h.a.keep fun k hk=>bC _ ?_ _ _ _ _ _ _ _,h.rows.keep fun i k hi hk=>bC _ ?_ _ _ _ _ _ _ _,h.b.keep fun k hk=>bC _ ?_ _ _ _ _ _ _ _⟩
 ·exact fun e=>(an h.a hb (by decide)) (by rw[hk,e])
 ·exact fun e=>(an (h.rows.row i hi) hb (by decide)) (by rw[hk,e])
 ·exact fun e=>(an h.b hb (by decide)) (by rw[hk,e])
section
variable{w:World}{S:Nat}{a:j6}{na ca:Nat}{b:j6}{nb cb:Nat}{c:j6}{nc cc:Nat}{ra:j6}{rn rc:Nat}{ba:j6}{bn bc:Nat}{vs:List Value}{t:Tb}{n:Nat}{f:Bool}
theorem bz.wY{g:Nat}{cs:Array Value}{z:Nat×Nat}(h:bz w S a na ca b nb cb c nc cc ra rn rc ba bn bc vs t n f)(hb:w.heap[g]?=some (.cells cs 72 z))(x0 x1 x2 I x4 G E:Value):
 bz (((((((w.setCell ⟨g,0,none⟩ x0).setCell ⟨g,1,none⟩ x1).setCell ⟨g,2,none⟩ x2).setCell ⟨g,3,none⟩ I).setCell ⟨g,4,none⟩ x4).setCell ⟨g,5,none⟩ G).setCell ⟨g,6,none⟩ E) S a na ca b nb cb c nc cc ra rn rc ba bn bc vs t n f :=
 ⟨(bC _ (iv h.box hb (by decide)) _ _ _ _ _ _ _).trans h.box,h.tb.wY hb _ _ _ _ _ _ _⟩
end
theorem Mod.wY{S:Nat}{w0:World}(h:Mod S w0 w)(hg:w0.heap.size<=g)(x0 x1 x2 I x4 G E:Value):
 Mod S w0 (((((((w.setCell ⟨g,0,none⟩ x0).setCell ⟨g,1,none⟩ x1).setCell ⟨g,2,none⟩ x2).setCell ⟨g,3,none⟩ I).setCell ⟨g,4,none⟩ x4).setCell ⟨g,5,none⟩ G).setCell ⟨g,6,none⟩ E):=by
 have hx:=Ext.wY (Ext.refl w) (b:=w.heap.size) (Nat.le_refl _) x0 x1 x2 I x4 G E;refine⟨?_,?_,?_,?_,fun k hk hn=>?_⟩
 ·have:=((((((Below.refl g w).setCell (p:=⟨g,0,none⟩) (Nat.le_refl g) x0).setCell (p:=⟨g,1,none⟩) (Nat.le_refl g) x1).setCell (p:=⟨g,2,none⟩) (Nat.le_refl g) x2).setCell (p:=⟨g,3,none⟩) (Nat.le_refl g) I).setCell (p:=⟨g,4,none⟩) (Nat.le_refl g) x4).setCell (p:=⟨g,5,none⟩) (Nat.le_refl g) G |>.setCell (p:=⟨g,6,none⟩) (Nat.le_refl g) E
  exact this.os.trans h.os
 ·have:=((((((Below.refl g w).setCell (p:=⟨g,0,none⟩) (Nat.le_refl g) x0).setCell (p:=⟨g,1,none⟩) (Nat.le_refl g) x1).setCell (p:=⟨g,2,none⟩) (Nat.le_refl g) x2).setCell (p:=⟨g,3,none⟩) (Nat.le_refl g) I).setCell (p:=⟨g,4,none⟩) (Nat.le_refl g) x4).setCell (p:=⟨g,5,none⟩) (Nat.le_refl g) G |>.setCell (p:=⟨g,6,none⟩) (Nat.le_refl g) E
  exact this.tape.trans h.tape
 ·have:=((((((Below.refl g w).setCell (p:=⟨g,0,none⟩) (Nat.le_refl g) x0).setCell (p:=⟨g,1,none⟩) (Nat.le_refl g) x1).setCell (p:=⟨g,2,none⟩) (Nat.le_refl g) x2).setCell (p:=⟨g,3,none⟩) (Nat.le_refl g) I).setCell (p:=⟨g,4,none⟩) (Nat.le_refl g) x4).setCell (p:=⟨g,5,none⟩) (Nat.le_refl g) G |>.setCell (p:=⟨g,6,none⟩) (Nat.le_refl g) E
  exact this.output.trans h.output
 ·have:=h.size;simpa using this
 ·exact(bC _ e7 _ _ _ _ _ _ _).trans (h.block k hk hn)
theorem l9.NA{b0:Nat}{yb E n cap u:Nat}{l:j4}{x y:Int}(h:l9 w b0 (.slice (some ⟨yb,E,none⟩) n cap) l)(hu:u<n)(hl:l[u]?.getD (0,0)=(x,y)):w.cell? ⟨yb,E+u*2,none⟩=some (.int .i64 x)/\w.cell? ⟨yb,E+u*2+1,none⟩=some (.int .i64 y):=by
 obtain⟨yb',Sh,x',y',e,G,h0,h1⟩:=h.uZ.at hu;simp only[Option.some.injEq,Addr.mk.injEq,and_true]at e;obtain⟨rfl,rfl⟩:=e;rw[hl]at G;simp only[Prod.mk.injEq]at G;obtain⟨rfl,rfl⟩:=G;exact⟨h0,h1⟩
section
variable{w0 w:World}{S:Nat}{a:j6}{na ca:Nat}{b:j6}{cb:Nat}{c:j6}{nc cc:Nat}{A:j5}{B:j7}{C:j4}{ra:j6}{rc:Nat}{ba:j6}{bc:Nat}{vs:List Value}
theorem uI(h0:Bf w0 a na ca b na cb c nc cc A B C)(ok:vG A B C=true)(hx:Ext w0 w)(hS:w0.heap.size<=S)(h:bz w S a na ca b na cb c nc cc ra na rc ba na bc vs (bD A B nc) 0 false):
 Calls Tryz.prog 107 #[.pointer (some ⟨S,0,none⟩)] w fun e w'=>Ze w S a na ca b na cb c nc cc e w' (yZ A B C):=by
 have uV:=ae hx;have H0:=ae h0;have FA:=ae h;have hlt:=lt_of_block h.box;obtain⟨r1,r2,r3,r4,r5,r6⟩:=co h0 ok;have zk:=ae (show A.length=na from h0.a.hlen);have xi:=ae (show B.length=na from h0.b.hlen);have yw:=ae (show C.length=nc from h0.c.hlen);have TI:=ae (show wo nc na (fun k j=>r8 (cj A B k) j) (bD A B nc)by have:=fR ok;rw[yw.o,zk.o]at this;exact this)
 have VT:=ae (show xC C=true by
  rw[iA]at ok;simp only[Bool.and_eq_true]at ok;exact ok.2.2.2.1)
 have Iu:=h0.a.l8;have It:=h0.a.o0;have xL:=h0.b.l8;have wU:=h0.b.o0;have xB:=h0.c.l8;have zC:=h0.c.o0;obtain⟨W,hW⟩:=b9 (w.alloc LB);have XW:=ae (show Ext w W by rw[hW];exact Ext.alloc _ _);have wL:=ae (show W.heap[w.heap.size]?=some (.cells #[.int .i64 0,.slice none 0 0,.slice none 0 0,.slice none 0 0,.int .i64 0,.int .i64 0,.int .i64 0] 72 (0,0))by rw[hW];exact aj _ _ _ rfl);have wi:=ae (fun(w':World) (hm:Mod S W w')=>(hm.block _ (lt_of_block wL.o) e7).trans wL.o);have Bi:=ae (fun(w':World) (hm:Mod S W w')=>H0.o.ext (hm.ext (hx.trans XW.o) hS));have zx:=ae (FA.o.ext XW.o);clear h0 hx h r3 r4 r5 r6 ok;go_enter Tryz.func107,Tryz.ntmps107
 go_upto_region 1 with fail;rw[<-hW];clear hW;obtain⟨Z,l1,l2,c0,c1,c2,c3,c4,cf⟩:=zx.o.cells;have AV:=ae (oc (Bi.o W (Mod.refl _ _)) true e7 e7);go_wp2_with fail;refine AV.o.mono ?_;rintro e w4 ⟨⟨v4,rfl,z8⟩,hx⟩;obtain⟨a4,n4,VP,rfl,UO⟩:=z8.var;have LW:=ae (zx.o.ext hx);have EZ:n4=nc+na:=by have h1:=UO.o;simp only[fL,if_true,dI,List.length_append,List.length_replicate]at h1;rw[yw.o]at h1;omega
 have CN:=ae (od LW.o TI.o e7 e7 e7 z8 EZ (qu _ _));have BL:=ae (Mod.of (S:=S) hx);clear z8 hx EZ UO Z l1 l2 c0 c1 c2 c3 c4 cf;go_wp2_with fail;refine CN.o.mono ?_;rintro e w5 ⟨BI,Of,Ps,Oe,OX,QJ,OW,Mf,J5⟩;have AU:=ae (BL.o.trans BI);obtain⟨o1,M3⟩:=b9 (aO (dI C.length B.length) 1000 (bD A B C.length));have J4:aO (fL true C na) (1000-0) (bD A B nc)=o1:=by rw[M3,yw.o,xi.o];simp only[fL,if_true];rw[yw.o]
 rw[J4]at J5;have vw:=ae M3;clear J4 M3 BI;obtain⟨U,q1,Q,O,J,I,G,E⟩:=vH (wi.o _ AU.o);have HMW:=ae ((Mod.of (S:=S) XW.o).trans AU.o);cases o1 with
 | none =>
   obtain⟨v5,Y4,t5,n5,rfl,Bm⟩:=J5;have CL:=ae Bm;have B2:=ae (show yZ A B C=none by unfold yZ;rw[<-vw.o];rfl);clear Bm;obtain⟨Z,l1,l2,c0,c1,c2,c3,c4,cf⟩:=CL.o.cells;go_wp2_with fail;refine bodyPost_ret (v:=zg (aM 0) none 0 0 none 0 0 none 0 0) (by simp[results,Tryz.results107,go_sem,U,q1,Q,O,J,I,G,E,aM]) rfl ⟨HMW.o.wY (Nat.le_refl _) _ _ _ _ _ _ _,?_⟩;rw[B2.o];exact⟨aM 0,none,0,0,none,0,0,none,0,0,rfl,_,_,_,_,_,_,_,_,_,CL.o.wY (wi.o _ AU.o) _ _ _ _ _ _ _⟩
 | some p1 =>
   obtain⟨v5,rfl,BH,Bm⟩:=J5;obtain⟨a5,n5,c5,rfl,zj⟩:=BH.var;have hinv:=du (t:=bD A B nc) TI.o (show aO (dI C.length B.length) 1000 (bD A B nc)=some p1 by rw[<-yw.o];exact vw.o.symm);have O2:=ae hinv.1;have VZ:=ae (dW O2.o hinv.2.1).1;have UD:=ae hinv.2.2;obtain⟨e1,e2⟩:=bz.same Bm O2.o;have Iv:=e1.symm;have e2':=e2.symm;clear e1 e2;subst Iv;subst e2';have CL:=ae Bm;have vU:=ae BH;clear Bm BH hinv;obtain⟨u,hu⟩:=b9 (nc+na);have HU:=ae hu;have HN:=ae (show n5=u+1 by have h1:=zj.o;rw[VZ.o.1]at h1;omega);obtain⟨yb,vB,lx,ly,Bs,F3,AL,xG⟩:=vU.o.uZ.at (show u<n5 by have:=HN.o;omega);subst Bs;have Bu:=VZ.o.2 u e7;rw[F3]at Bu;have S7:=vU.o.uZ.l8;have S6:=vU.o.uZ.o0;have EF:=ae (show p1.costs[C.length+B.length]?.getD (0,0)=(lx,ly)by rw[yw.o,xi.o,<-HU.o];exact F3);have LD:IntKind.i64.wrap ((n5:Int)-1)=(u:Int):=by have:=HN.o;rw[IntKind.wrap_i64];omega
   have DH:(u:Int)<(n5:Int):=by have:=HN.o;omega
   have JS:(0:Int)<=(u:Int):=by omega
   have xZ:=ae (kS lx ly w5);obtain⟨sg,AB⟩:=b9 (vP (lx,ly) (0,1));have A1:=ae (show sg<0↔lx<0 by rw[AB];exact tB Bu);rw[<-AB]at xZ;obtain⟨Z,l1,l2,c0,c1,c2,c3,c4,cf⟩:=CL.o.cells;clear AB F3 hu Bu;go_wp2_with fail;refine xZ.o.mono ?_;rintro e w6 ⟨rfl,hx⟩;have Q2:=ae (CL.o.ext hx);have yT:=ae (vU.o.ext hx);have Gn:=ae (AU.o.trans (Mod.of hx));clear hx LD DH JS AL xG Z l1 l2 c0 c1 c2 c3 c4 cf U q1 Q O J I G E;obtain⟨Z,l1,l2,c0,c1,c2,c3,c4,cf⟩:=Q2.o.cells;obtain⟨U,q1,Q,O,J,I,G,E⟩:=vH (wi.o _ Gn.o);by_cases Aa:sg<0
   ·have CO:=ae (show yZ A B C=some ⟨2,[],(List.range na).map (cY B (1,1) p1.costs nc),[],(0,0),1000-p1.left⟩by
     unfold yZ;rw[<-vw.o];simp only[Option.bind_some];rw[EF.o,if_pos (A1.o.1 Aa),xi.o,yw.o])
    have Pc:=ae (pW Q2.o O2.o.q8 (Bi.o _ Gn.o).b Iu It yT.o.uZ (by have:=HN.o;have:=HU.o;omega) (by have:=HN.o;have:=HU.o;omega) 1);go_wp2_with fail;refine Pc.o.mono ?_;rintro e w7 ⟨⟨v7,rfl,Hc⟩,hx⟩;obtain⟨a7,n7,c7,rfl,DP⟩:=Hc.var;have Gj:=ae (Q2.o.ext hx);have Li:=ae (Gn.o.trans (Mod.of hx));have Fj:=ae Hc;have hs67:=Gn.o.size;clear hx Hc Z l1 l2 c0 c1 c2 c3 c4 cf U q1 Q O J I G E;obtain⟨U,q1,Q,O,J,I,G,E⟩:=vH (wi.o _ Li.o);have Rf:=ae ((Mod.of (S:=S) XW.o).trans Li.o);have Ev:=lt_of_block wL.o;go_wp2_with fail;refine bodyPost_ret (v:=zg ⟨2,[],(List.range na).map (cY B (1,1) p1.costs nc),[],(0,0),0⟩ none 0 0 a7 n7 c7 none 0 0) (by simp[results,Tryz.results107,go_sem,U,q1,Q,O,J,I,G,E]) rfl ⟨Rf.o.wY (Nat.le_refl _) _ _ _ _ _ _ _,?_⟩;rw[CO.o];refine⟨none,0,0,a7,n7,c7,none,0,0,rfl,⟨fun W _=>Rats.Ci W,?_,fun W _=>Rats.Ci W⟩,_,_,_,_,_,_,_,_,_,Gj.o.wY (wi.o _ Li.o) _ _ _ _ _ _ _,?_⟩
    ·exact(Fj.o.keep fun i hi=>bC _ (j1 ((Fj.o.lt i hi).1)) _ _ _ _ _ _ _).zV e7
    ·show((1000-p1.left:Nat):Int)=1000-(p1.left:Int);have:=UD.o;omega
   ·have CO:=ae (show yZ A B C=(aY nc (p1.t,p1.left) na).bind fun s=>(aO (bY C na) s.2 s.1).map fun p2 =>
     if 0<=p2.ve then⟨3,(xx p2.t).take nc,[],xp p2.t nc p2.ve.toNat na,(0,0),1000-p2.left⟩
     else⟨1,(xx p2.t).take nc,(List.range na).map (cY B (0,1) p2.costs nc),[],uU (p2.costs[nc+na]?.getD (0,0)),1000-p2.left⟩by
     unfold yZ;rw[<-vw.o];simp only[Option.bind_some];rw[EF.o,if_neg (fun h=>Aa (A1.o.2 h)),xi.o,yw.o])
    have HDR:=ae (uH Q2.o O2.o e7 e7 e7);have HLF:=ae (show 1000-(1000-p1.left)=p1.left by have:=UD.o;omega);rw[HLF.o]at HDR;go_wp2_with fail;refine HDR.o.mono ?_;rintro e w7 ⟨rfl,RJ,ra7,Wn,rc7,ba7,Y9,bc7,vs7,Tm⟩;have Li:=ae (Gn.o.trans RJ);clear RJ Z l1 l2 c0 c1 c2 c3 c4 cf U q1 Q O J I G E;obtain⟨U,q1,Q,O,J,I,G,E⟩:=vH (wi.o _ Li.o);have Rf:=ae ((Mod.of (S:=S) XW.o).trans Li.o);cases hd:aY nc (p1.t,p1.left) na with
    | none =>
      rw[hd]at Tm;obtain⟨t7,n7,GA⟩:=Tm;have Gj:=ae GA;have B2:=ae (show yZ A B C=none by rw[CO.o,hd];rfl);clear GA hd;obtain⟨Z,l1,l2,c0,c1,c2,c3,c4,cf⟩:=Gj.o.cells;go_wp2_with fail;refine bodyPost_ret (v:=zg (aM 0) none 0 0 none 0 0 none 0 0) (by simp[results,Tryz.results107,go_sem,U,q1,Q,O,J,I,G,E,aM]) rfl ⟨Rf.o.wY (Nat.le_refl _) _ _ _ _ _ _ _,?_⟩;rw[B2.o];exact⟨aM 0,none,0,0,none,0,0,none,0,0,rfl,_,_,_,_,_,_,_,_,_,Gj.o.wY (wi.o _ Li.o) _ _ _ _ _ _ _⟩
    | some st =>
      obtain⟨tt,lf⟩:=st;rw[hd]at Tm;have OJ:=eM (s:=(p1.t,p1.left)) O2.o hd;have HT:=ae (show wo nc na _ tt from OJ.1);have Tk:lf<=1000:=by have h1:=OJ.2;have h2:=UD.o;simp only at h1;omega
      have HD:=ae hd;have GA:bz w7 S a na ca b na cb c nc cc ra7 Wn rc7 ba7 Y9 bc7 vs7 tt (1000-lf) false:=Tm;obtain⟨e1,e2⟩:=bz.same GA HT.o;have Iv:=e1.symm;have e2':=e2.symm;clear e1 e2 Tm;subst Iv;subst e2';have Gj:=ae GA;clear GA hd OJ;obtain⟨Z,l1,l2,c0,c1,c2,c3,c4,cf⟩:=Gj.o.cells;have Rq:=ae (oc (Bi.o _ Li.o) false e7 e7);go_wp2_with fail;refine Rq.o.mono ?_;rintro e w8 ⟨⟨v8,rfl,Ap⟩,hx⟩;obtain⟨a8,n8,c8,rfl,Eg⟩:=Ap.var;have Ht:=ae (Gj.o.ext hx);have HM8:=ae (Li.o.trans (Mod.of hx));have Vt:n8=nc+na:=by have h1:=Eg.o;simp only[fL,Bool.false_eq_true,if_false,bY,List.length_append,List.length_replicate]at h1;rw[yw.o]at h1;omega
      have K8:=ae (od Ht.o HT.o e7 e7 e7 Ap Vt (qv VT.o _));clear Ap hx Vt Eg Z l1 l2 c0 c1 c2 c3 c4 cf U q1 Q O J I G E;go_wp2_with fail;refine K8.o.mono ?_;rintro e w9 ⟨hm9,ra9,rn9,rc9,ba9,bn9,bc9,vs9,Xm⟩;have UX:=ae (HM8.o.trans hm9);have PM:=HM8.o.size;obtain⟨o2,AR⟩:=b9 (aO (bY C na) lf tt);have J4:aO (fL false C na) (1000-(1000-lf)) tt=o2:=by rw[AR,show 1000-(1000-lf)=lf by omega];rfl
      rw[J4]at Xm;have wG:=ae AR
      have Dx:=ae (show yZ A B C=o2.map fun p2=>if 0<=p2.ve then⟨3,(xx p2.t).take nc,[],xp p2.t nc p2.ve.toNat na,(0,0),1000-p2.left⟩
       else⟨1,(xx p2.t).take nc,(List.range na).map (cY B (0,1) p2.costs nc),[],uU (p2.costs[nc+na]?.getD (0,0)),1000-p2.left⟩by
       rw[CO.o,HD.o,Option.bind_some,AR])
      clear J4 AR hm9;obtain⟨U,q1,Q,O,J,I,G,E⟩:=vH (wi.o _ UX.o);have ZQ:=ae ((Mod.of (S:=S) XW.o).trans UX.o);cases o2 with
      | none =>
        obtain⟨v9,col9,t9,n9,rfl,Ox⟩:=Xm;have Gi:=ae Ox;clear Ox;obtain⟨Z,l1,l2,c0,c1,c2,c3,c4,cf⟩:=Gi.o.cells;go_wp2_with fail;refine bodyPost_ret (v:=zg (aM 0) none 0 0 none 0 0 none 0 0) (by simp[results,Tryz.results107,go_sem,U,q1,Q,O,J,I,G,E,aM]) rfl ⟨ZQ.o.wY (Nat.le_refl _) _ _ _ _ _ _ _,?_⟩;rw[Dx.o];exact⟨aM 0,none,0,0,none,0,0,none,0,0,rfl,_,_,_,_,_,_,_,_,_,Gi.o.wY (wi.o _ UX.o) _ _ _ _ _ _ _⟩
      | some p2 =>
        obtain⟨v9,rfl,Im,Ox⟩:=Xm;obtain⟨a9,n9,c9,rfl,LZ⟩:=Im.var;have hinv:=du HT.o (show aO (bY C na) lf tt=some p2 from wG.o.symm);have yL:=ae hinv.1;have Hu:=ae (dW yL.o hinv.2.1).1;have Q5:=ae hinv.2.2;have A9:=nN HT.o (show aO (bY C na) lf tt=some p2 from wG.o.symm);obtain⟨e1,e2⟩:=bz.same Ox yL.o;have Iv:=e1.symm;have e2':=e2.symm;clear e1 e2;subst Iv;subst e2';have Gi:=ae Ox;have Dz:=ae Im;clear Ox Im hinv;have Q1:=ae (fun(w':World) (hx:Ext w9 w')=>pR (Gi.o.ext hx).tb.zB yL.o e7 e7)
        have zP:=ae (show(xx p2.t).length=nc+na by
         unfold xx;rw[if_pos (yL.o.ok e7),hI,yL.o.q8,yL.o.len];simp)
        obtain⟨qc,RG⟩:=b9 p2.ve;rw[Option.map_some,<-RG]at Dx;rw[<-RG]at A9⊢;have H3:=ae (show n9=u+1 by have h1:=LZ.o;rw[Hu.o.1]at h1;have:=HU.o;omega);have B1:=ae (show((1000-p2.left:Nat):Int)=1000-(p2.left:Int)by have:=Q5.o;omega);obtain⟨Z,l1,l2,c0,c1,c2,c3,c4,cf⟩:=Gi.o.cells;rw[yL.o.q8]at c2;have Ox:=UX.o.size;clear RG;go_upto_region 12 with fail;have k7:Ext w9 w9.drew:=Ext.drew w9;have k8:=ae (fun(w':World) (h:Ext w9 w')=>(⟨h.j9 c0,h.j9 c1,h.j9 c2,h⟩:w'.cell? ⟨S,3,none⟩=some (.slice ra9 na rc9)/\w'.cell? ⟨S,4,none⟩=some (.slice ba9 na bc9)/\w'.cell? ⟨S,5,none⟩=some (.int .i64 (nc:Int))/\Ext w9 w'));refine wp_region_held_drew (S:=(fun w'=>w'.cell? ⟨S,3,none⟩=some (.slice ra9 na rc9)/\w'.cell? ⟨S,4,none⟩=some (.slice ba9 na bc9)/\w'.cell? ⟨S,5,none⟩=some (.int .i64 (nc:Int))/\Ext w9 w')) e9 ?_ (fun k9=>?_)
        ·exact k8.o _ k7
        refine tk 0 ?_;refine tk 1 ?_;refine tk 2 ?_;refine tk 3 ?_;refine tk 5 ?_;refine tk 6 ?_;refine tk 7 ?_;refine tk 8 ?_;refine tk 9 ?_;refine rd (i:=4) (h:=fun K hK=>?_);go_simp
        (go_at_call 170;refine(Q1.o _ k7).mono ?_;rintro e DW ⟨⟨v10,rfl,J9⟩,DZ⟩;have PR:=k7.size;have k7:=k7.trans DZ;obtain⟨ax,nx,cx,rfl,Lf⟩:=J9.var;have Yr:=J9.uZ.l8;have Yq:=J9.uZ.o0;have Yp:(nc:Int)<=(cx:Int):=(by(have h1:=Lf.o;rw[zP.o]at h1;omega)))
        go_wp2_with fail;refine hK.out _ _ ?_ (fun k9=>?_)
        ·exact k8.o _ k7
        clear hK K
        try simp only[Act.put,sA,sB,sC]
        refine tk 10 ?_;refine tk 11 ?_;refine wpAnyH_done e9 ?_ _;have NT:=ae (J9.mono PR);have Lg:=ae (show nc<=nx by have h1:=Lf.o;rw[zP.o]at h1;omega);have Fi:=ae (Gi.o.ext k7);have Aj:=ae (Dz.o.ext k7);have Fm:=ae (UX.o.trans (Mod.of k7));have Lh:=ae ((Mod.of (S:=S) XW.o).trans Fm.o);clear k7 J9 Z l1 l2 c0 c1 c2 c3 c4 cf U q1 Q O J I G E Yr k9 k8;have Ev:=lt_of_block wL.o
        rcases A9 with hc|⟨jc,hc,Tq⟩
        ·subst hc
         have FB:=ae (show yZ A B C=some ⟨1,(xx p2.t).take nc,(List.range na).map (cY B (0,1) p2.costs nc),[],uU (p2.costs[nc+na]?.getD (0,0)),1000-p2.left⟩by
          rw[Dx.o,if_neg e7])
         have Pc:=ae (fun(w':World) (hx:Ext DW w')=>pW (Fi.o.ext hx) yL.o.q8 (Bi.o _ (Fm.o.trans (Mod.of hx))).b Iu It (Aj.o.ext hx).uZ (by have:=H3.o;have:=HU.o;omega) (by have:=H3.o;have:=HU.o;omega) 0);obtain⟨Ru,DA,vx,vy,Bs,F3,AL,xG⟩:=Aj.o.uZ.at (show u<n9 by have:=H3.o;omega);subst Bs;have xK:=Hu.o.2 u (j1 HU.o);rw[F3]at xK;have xK:=aL xK;have MP:-9223372036854775807<=vx:=by have:=xK.2.2.1;simp only at this;omega
         have MO:vx<=9223372036854775807:=by have:=xK.2.2.2;simp only at this;omega
         have ZV:=ae F3;have K3:=ae (show uU (p2.costs[nc+na]?.getD (0,0))=(-vx,vy)by rw[<-HU.o,F3];rfl);have hr9a:=Aj.o.uZ.l8;have hr9b:=Aj.o.uZ.o0;have LD:IntKind.i64.wrap ((n9:Int)-1)=(u:Int):=by have:=H3.o;rw[IntKind.wrap_i64];omega
         have DH:(u:Int)<(n9:Int):=by have:=H3.o;omega
         have JS:(0:Int)<=(u:Int):=by omega
         clear F3 xK;go_upto_region 15 with fail;have k7:Ext DW DW.drew:=Ext.drew DW;have k8:=ae (fun(w':World) (h:Ext DW w')=>(⟨h.j9 AL,h.j9 xG,Lh.o.trans (Mod.of h)⟩:w'.cell? ⟨Ru,DA+u*2,none⟩=some (.int .i64 vx)/\w'.cell? ⟨Ru,DA+u*2+1,none⟩=some (.int .i64 vy)/\Mod S w w'));refine wp_region_held_drew (S:=(fun w'=>w'.cell? ⟨Ru,DA+u*2,none⟩=some (.int .i64 vx)/\w'.cell? ⟨Ru,DA+u*2+1,none⟩=some (.int .i64 vy)/\Mod S w w')) e9 ?_ (fun k9=>?_)
         ·exact k8.o _ k7
         refine tk 0 ?_;refine tk 1 ?_;refine tk 2 ?_;refine tk 4 ?_;refine tk 5 ?_;refine tk 6 ?_;refine tk 7 ?_;refine tk 8 ?_;refine tk 9 ?_;refine rd (i:=3) (h:=fun K hK=>?_);go_simp
         (go_at_call 168;refine(Pc.o _ k7).mono ?_;rintro e Bp ⟨⟨v12,rfl,F0⟩,yH⟩;have J0:=k7.size;have k7:=k7.trans yH;obtain⟨a12,n12,c12,rfl,ZN⟩:=F0.var;have CP:=ae (F0.mono J0);clear F0)
         go_wp2_with fail;refine hK.out _ _ ?_ (fun k9=>?_)
         ·exact k8.o _ k7
         clear hK K
         try simp only[Act.put,sA,sB,sC]
         refine rd (i:=10) (h:=fun K hK=>?_);go_simp
         (go_at_call 51;refine(eB vx vy _ MP MO).mono ?_;rintro e Ij ⟨rfl,JL⟩;have k7:=k7.trans JL;have zy:=ae (CP.o.ext JL);have UY:=ae (Fm.o.trans (Mod.of k7));have O8:=ae (Lh.o.trans (Mod.of k7));have Vd:=ae (Aj.o.ext k7);obtain⟨U,q1,Q,O,J,I,G,E⟩:=vH (wi.o _ UY.o))
         go_wp2_with fail;refine hK.out _ _ ?_ (fun k9=>?_)
         ·exact k8.o _ k7
         clear hK K
         try simp only[Act.put,sA,sB,sC]
         refine tk 11 ?_
         have U1:=ae (fun(x0 x1 x2 x3 x4 x5 x6:Value)=>(show(fun w'=>w'.cell? ⟨Ru,DA+u*2,none⟩=some (.int .i64 vx)/\w'.cell? ⟨Ru,DA+u*2+1,none⟩=some (.int .i64 vy)/\Mod S w w') (((((((Ij.setCell ⟨w.heap.size,0,none⟩ x0).setCell ⟨w.heap.size,1,none⟩ x1).setCell ⟨w.heap.size,2,none⟩ x2).setCell ⟨w.heap.size,3,none⟩ x3).setCell ⟨w.heap.size,4,none⟩ x4).setCell ⟨w.heap.size,5,none⟩ x5).setCell ⟨w.heap.size,6,none⟩ x6)from by
          have hc:=(Vd.o.keep (w':=(((((((Ij.setCell ⟨w.heap.size,0,none⟩ x0).setCell ⟨w.heap.size,1,none⟩ x1).setCell ⟨w.heap.size,2,none⟩ x2).setCell ⟨w.heap.size,3,none⟩ x3).setCell ⟨w.heap.size,4,none⟩ x4).setCell ⟨w.heap.size,5,none⟩ x5).setCell ⟨w.heap.size,6,none⟩ x6)) fun k hk=>bC _ (j1 ((Vd.o.lt k hk).1)) _ _ _ _ _ _ _).NA (show u<n9 by have:=H3.o;omega) ZV.o
          exact⟨hc.1,hc.2,O8.o.wY (Nat.le_refl _) _ _ _ _ _ _ _⟩))
         refine rd (i:=12) (h:=fun K hK=>?_);go_simp;refine hK.out _ _ ?_ (fun k9=>?_)
         ·exact U1.o _ _ _ _ _ _ _
         clear hK K
         try simp only[Act.put,sA,sB,sC]
         refine wpAnyH_done e9 ?_ _;go_wp2_with fail;refine bodyPost_ret (v:=zg ⟨1,(xx p2.t).take nc,(List.range na).map (cY B (0,1) p2.costs nc),[],(-vx,vy),0⟩ ax nc cx a12 n12 c12 none 0 0) (by simp[results,Tryz.results107,go_sem,U,q1,Q,O,J,I,G,E]) rfl ⟨O8.o.wY (Nat.le_refl _) _ _ _ _ _ _ _,?_⟩;rw[FB.o,K3.o];refine⟨ax,nc,cx,a12,n12,c12,none,0,0,rfl,⟨?_,?_,fun W _=>Rats.Ci W⟩,_,_,_,_,_,_,_,_,_,(Fi.o.ext k7).wY (wi.o _ UY.o) _ _ _ _ _ _ _,B1.o⟩
         ·exact((NT.o.ext k7).keep fun i hi=>bC _ (j1 ((NT.o.lt i hi).1)) _ _ _ _ _ _ _).DY e7 Lg.o
         ·exact(zy.o.keep fun i hi=>bC _ (by have:=(zy.o.lt i hi).1;have:=Fm.o.size;omega) _ _ _ _ _ _ _).zV (j1 Fm.o.size)
        ·subst hc
         have FB:=ae (show yZ A B C=some ⟨3,(xx p2.t).take nc,[],xp p2.t nc jc na,(0,0),1000-p2.left⟩by
          rw[Dx.o,if_pos e7,Int.toNat_natCast])
         have VX:=ae (Mn Fi.o yL.o e7 e7 Tq);go_wp2_with fail;refine VX.o.mono ?_;rintro e Bp ⟨⟨v12,rfl,F0⟩,yH⟩;obtain⟨a12,n12,c12,rfl,ZN⟩:=F0.var;have CP:=ae F0;have NM:=ae yH;have H5:=ae (Fm.o.trans (Mod.of yH));have UR:=ae (Lh.o.trans (Mod.of yH));clear F0 yH;obtain⟨U,q1,Q,O,J,I,G,E⟩:=vH (wi.o _ H5.o);go_wp2_with fail;refine bodyPost_ret (v:=zg ⟨3,(xx p2.t).take nc,[],xp p2.t nc jc na,(0,0),0⟩ ax nc cx none 0 0 a12 n12 c12) (by simp[results,Tryz.results107,go_sem,U,q1,Q,O,J,I,G,E]) rfl ⟨UR.o.wY (Nat.le_refl _) _ _ _ _ _ _ _,?_⟩;rw[FB.o];refine⟨ax,nc,cx,none,0,0,a12,n12,c12,rfl,⟨?_,fun W _=>Rats.Ci W,?_⟩,_,_,_,_,_,_,_,_,_,(Fi.o.ext NM.o).wY (wi.o _ H5.o) _ _ _ _ _ _ _,B1.o⟩
         ·exact((NT.o.ext NM.o).keep fun i hi=>bC _ (j1 ((NT.o.lt i hi).1)) _ _ _ _ _ _ _).DY e7 Lg.o
         ·exact(CP.o.keep fun i hi=>bC _ (by have:=(CP.o.lt i hi).1;have:=Fm.o.size;omega) _ _ _ _ _ _ _).zV (j1 Fm.o.size)
end
end Go.Proofs.YtdadoignenffgaaGreatDoor
