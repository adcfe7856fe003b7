import Derived.Test.YtalmoolkhcgmmaaGreatNqAltG40
import Derived.Test.YtalmoolkhcgmmaaGreatNqAltG39
set_option linter.unusedVariables false
set_option linter.unusedSimpArgs false
namespace Go.Proofs.YtalmoolkhcgmmaaGreat
variable{w:World}{g:Nat}
set_option maxHeartbeats 16000000
set_option maxRecDepth 100000
open Go.RowKit
theorem uN{v:k5}(hv:o5 v=true):wU v (0,1)<0↔v.1<0:=by
 have hb:=aQ hv;unfold wU;rw[if_pos (by rw[hv];decide)];simp only;constructor
 ·intro h
  split at h
  ·next h1=>omega
  ·split at h
   ·omega
   ·omega
 ·intro h;rw[if_pos b9];omega
theorem rM(n m:Nat):yz (bM n m)=true:=by
 unfold yz bM;rw[List.all_append,List.all_replicate,List.all_replicate];have h0:o5 ((0:Int),(1:Int))=true:=by decide
 have h1:o5 ((1:Int),(1:Int))=true:=by decide
 rw[h0,h1];simp
theorem rO{C:j6}(h:yz C=true)(m:Nat):yz (bK C m)=true:=by
 unfold yz bK at *;rw[List.all_append,h,List.all_replicate];have h0:o5 ((0:Int),(1:Int))=true:=by decide
 rw[h0];simp
def SolW(w:World)(S:Nat)(a:j8)(na ca:Nat)(b:j8)(nb cb:Nat)(c:j8)(nc cc:Nat)(e:Ending)(w':World)(o:Option AT):Prop :=
 Mod S w w'/\match o with
  | some r=>∃xa xn xc ya yn yc za zn zc,e=.returned (A6 ⟨r.status,r.X,r.Y,r.A5,r.value,0⟩ xa xn xc ya yn yc za zn zc)/\Bq w' w.heap.size xa xn xc ya yn yc za zn zc r/\∃ra rn rc ba bn bc vs t n,bI w' S a na ca b nb cb c nc cc ra rn rc ba bn bc vs t n false/\(n:Int)=r.Hp
  | none=>∃r xa xn xc ya yn yc za zn zc,e=.returned (A6 r xa xn xc ya yn yc za zn zc)/\∃ra rn rc ba bn bc vs t n,bI w' S a na ca b nb cb c nc cc ra rn rc ba bn bc vs t n true
theorem yK.yX{base:Nat}{I G:Value}{vs:List Value}{t:Tb}{c:Array Value}{z:Nat×Nat}(h:yK w base I G vs t)(hb:w.heap[g]?=some (.cells c 56 z))(x0 x1 x2 O x4 K J:Value):
 yK (((((((w.setCell ⟨g,0,none⟩ x0).setCell ⟨g,1,none⟩ x1).setCell ⟨g,2,none⟩ x2).setCell ⟨g,3,none⟩ O).setCell ⟨g,4,none⟩ x4).setCell ⟨g,5,none⟩ K).setCell ⟨g,6,none⟩ J) base I G vs t:=by
 refine⟨h.a.keep fun k hk=>bL _ ?_ _ _ _ _ _ _ _,h.rows.keep fun i k hi hk=>bL _ ?_ _ _ _ _ _ _ _,h.b.keep fun k hk=>bL _ ?_ _ _ _ _ _ _ _⟩
 ·exact fun e=>(av h.a hb (by decide)) (by rw[hk,e])
 ·exact fun e=>(av (h.rows.row i hi) hb (by decide)) (by rw[hk,e])
 ·exact fun e=>(av h.b hb (by decide)) (by rw[hk,e])
section
variable{w:World}{S:Nat}{a:j8}{na ca:Nat}{b:j8}{nb cb:Nat}{c:j8}{nc cc:Nat}{ra:j8}{rn rc:Nat}{ba:j8}{bn bc:Nat}{vs:List Value}{t:Tb}{n:Nat}{f:Bool}
theorem bI.yX{g:Nat}{cs:Array Value}{z:Nat×Nat}(h:bI w S a na ca b nb cb c nc cc ra rn rc ba bn bc vs t n f)(hb:w.heap[g]?=some (.cells cs 56 z))(x0 x1 x2 J x4 I G:Value):
 bI (((((((w.setCell ⟨g,0,none⟩ x0).setCell ⟨g,1,none⟩ x1).setCell ⟨g,2,none⟩ x2).setCell ⟨g,3,none⟩ J).setCell ⟨g,4,none⟩ x4).setCell ⟨g,5,none⟩ I).setCell ⟨g,6,none⟩ G) S a na ca b nb cb c nc cc ra rn rc ba bn bc vs t n f :=
 ⟨(bL _ (jk h.box hb (by decide)) _ _ _ _ _ _ _).trans h.box,h.tb.yX hb _ _ _ _ _ _ _⟩
end
theorem Mod.yX{S:Nat}{w0:World}(h:Mod S w0 w)(hg:w0.heap.size<=g)(x0 x1 x2 J x4 I G:Value):
 Mod S w0 (((((((w.setCell ⟨g,0,none⟩ x0).setCell ⟨g,1,none⟩ x1).setCell ⟨g,2,none⟩ x2).setCell ⟨g,3,none⟩ J).setCell ⟨g,4,none⟩ x4).setCell ⟨g,5,none⟩ I).setCell ⟨g,6,none⟩ G):=by
 have hx:=Ext.yX (Ext.refl w) (b:=w.heap.size) (Nat.le_refl _) x0 x1 x2 J x4 I G;refine⟨?_,?_,?_,?_,fun k hk hn=>?_⟩
 ·have:=((((((Below.refl g w).setCell (p:=⟨g,0,none⟩) (Nat.le_refl g) x0).setCell (p:=⟨g,1,none⟩) (Nat.le_refl g) x1).setCell (p:=⟨g,2,none⟩) (Nat.le_refl g) x2).setCell (p:=⟨g,3,none⟩) (Nat.le_refl g) J).setCell (p:=⟨g,4,none⟩) (Nat.le_refl g) x4).setCell (p:=⟨g,5,none⟩) (Nat.le_refl g) I |>.setCell (p:=⟨g,6,none⟩) (Nat.le_refl g) G
  exact this.os.trans h.os
 ·have:=((((((Below.refl g w).setCell (p:=⟨g,0,none⟩) (Nat.le_refl g) x0).setCell (p:=⟨g,1,none⟩) (Nat.le_refl g) x1).setCell (p:=⟨g,2,none⟩) (Nat.le_refl g) x2).setCell (p:=⟨g,3,none⟩) (Nat.le_refl g) J).setCell (p:=⟨g,4,none⟩) (Nat.le_refl g) x4).setCell (p:=⟨g,5,none⟩) (Nat.le_refl g) I |>.setCell (p:=⟨g,6,none⟩) (Nat.le_refl g) G
  exact this.tape.trans h.tape
 ·have:=((((((Below.refl g w).setCell (p:=⟨g,0,none⟩) (Nat.le_refl g) x0).setCell (p:=⟨g,1,none⟩) (Nat.le_refl g) x1).setCell (p:=⟨g,2,none⟩) (Nat.le_refl g) x2).setCell (p:=⟨g,3,none⟩) (Nat.le_refl g) J).setCell (p:=⟨g,4,none⟩) (Nat.le_refl g) x4).setCell (p:=⟨g,5,none⟩) (Nat.le_refl g) I |>.setCell (p:=⟨g,6,none⟩) (Nat.le_refl g) G
  exact this.output.trans h.output
 ·have:=h.size;simpa using this
 ·exact(bL _ b9 _ _ _ _ _ _ _).trans (h.block k hk hn)
theorem l8.Qr{J:Nat}{yb G n cap u:Nat}{l:j6}{x y:Int}(h:l8 w J (.slice (some ⟨yb,G,none⟩) n cap) l)(hu:u<n)(hl:l[u]?.getD (0,0)=(x,y)):w.cell? ⟨yb,G+u*2,none⟩=some (.int .i64 x)/\w.cell? ⟨yb,G+u*2+1,none⟩=some (.int .i64 y):=by
 obtain⟨yb',VG,x',y',e,I,h0,h1⟩:=h.wK.at hu;simp only[Option.some.injEq,Addr.mk.injEq,and_true]at e;obtain⟨rfl,rfl⟩:=e;rw[hl]at I;simp only[Prod.mk.injEq]at I;obtain⟨rfl,rfl⟩:=I;exact⟨h0,h1⟩
section
variable{w0 w:World}{S:Nat}{a:j8}{na ca:Nat}{b:j8}{cb:Nat}{c:j8}{nc cc:Nat}{A:j7}{B:j9}{C:j6}{ra:j8}{rc:Nat}{ba:j8}{bc:Nat}{vs:List Value}
theorem ww(h0:Cz w0 a na ca b na cb c nc cc A B C)(ok:xF A B C=true)(hx:Ext w0 w)(hS:w0.heap.size<=S)(h:bI w S a na ca b na cb c nc cc ra na rc ba na bc vs (bF A B nc) 0 false):
 Calls Tryz.prog 82 #[.pointer (some ⟨S,0,none⟩)] w fun e w'=>SolW w S a na ca b na cb c nc cc e w' (AV A B C):=by
 have wM:=ae hx;have H0:=ae h0;have Hc:=ae h;have hlt:=lt_of_block h.box;obtain⟨r1,r2,r3,r4,r5,r6⟩:=cI h0 ok;have BL:=ae (show A.length=na from h0.a.hlen);have y4:=ae (show B.length=na from h0.b.hlen);have z8:=ae (show C.length=nc from h0.c.hlen);have TI:=ae (show xY nc na (fun k j=>o4 (cn A B k) j) (bF A B nc)by have:=fT ok;rw[z8.o,BL.o]at this;exact this)
 have HVC:=ae (show yz C=true by
  rw[jr]at ok;simp only[Bool.and_eq_true]at ok;exact ok.2.2.2.1)
 have Ke:=h0.a.o3;have ES:=h0.a.l9;have zN:=h0.b.o3;have zx:=h0.b.l9;have yq:=h0.c.o3;have AZ:=h0.c.l9;obtain⟨W,hW⟩:=b8 (w.alloc Ob);have XW:=ae (show Ext w W by rw[hW];exact Ext.alloc _ _);have yA:=ae (show W.heap[w.heap.size]?=some (.cells #[.int .i64 0,.slice none 0 0,.slice none 0 0,.slice none 0 0,.int .i64 0,.int .i64 0,.int .i64 0] 56 (0,0))by rw[hW];exact ak _ _ _ rfl);have xU:=ae (fun(w':World) (hm:Mod S W w')=>(hm.block _ (lt_of_block yA.o) b9).trans yA.o);have AQ:=ae (fun(w':World) (hm:Mod S W w')=>H0.o.ext (hm.ext (hx.trans XW.o) hS));have Bc:=ae (Hc.o.ext XW.o);clear h0 hx h r3 r4 r5 r6 ok;go_enter Tryz.func82,Tryz.ntmps82
 go_upto_region 1 with fail;rw[<-hW];clear hW;obtain⟨l0,l1,l2,c0,c1,c2,c3,c4,cf⟩:=Bc.o.cells;have Cq:=ae (pB (AQ.o W (Mod.refl _ _)) true b9 b9);go_wp2_with fail;refine Cq.o.mono ?_;rintro e w4 ⟨⟨v4,rfl,Ci⟩,hx⟩;obtain⟨a4,n4,Z9,rfl,YW⟩:=Ci.var;have OH:=ae (Bc.o.ext hx);have EF:n4=nc+na:=by have h1:=YW.o;simp only[gW,if_true,bM,List.length_append,List.length_replicate]at h1;rw[z8.o]at h1;omega
 have Er:=ae (pC OH.o TI.o b9 b9 b9 Ci EF (rM _ _));have CB:=ae (Mod.of (S:=S) hx);clear Ci hx EF YW l0 l1 l2 c0 c1 c2 c3 c4 cf;go_wp2_with fail;refine Er.o.mono ?_;rintro e w5 ⟨Dr,Q5,Sy,Q4,RU,TY,RT,OY,Og⟩;have Cp:=ae (CB.o.trans Dr);obtain⟨o1,Jx⟩:=b8 (aJ (bM C.length B.length) 1000 (bF A B C.length));have Mr:aJ (gW true C na) (1000-0) (bF A B nc)=o1:=by rw[Jx,z8.o,y4.o];simp only[gW,if_true];rw[z8.o]
 rw[Mr]at Og;have xC:=ae Jx;clear Mr Jx Dr;obtain⟨q0,Z,U,R,O,J,I,G⟩:=xS (xU.o _ Cp.o);have HMW:=ae ((Mod.of (S:=S) XW.o).trans Cp.o);cases o1 with
 | none =>
   obtain⟨v5,col5,t5,n5,rfl,A8⟩:=Og;have Ep:=ae A8;have DO:=ae (show AV A B C=none by unfold AV;rw[<-xC.o];rfl);clear A8;obtain⟨l0,l1,l2,c0,c1,c2,c3,c4,cf⟩:=Ep.o.cells;go_wp2_with fail;refine bodyPost_ret (v:=A6 (be 0) none 0 0 none 0 0 none 0 0) (by simp[results,Tryz.results82,go_sem,q0,Z,U,R,O,J,I,G,be]) rfl ⟨HMW.o.yX (Nat.le_refl _) _ _ _ _ _ _ _,?_⟩;rw[DO.o];exact⟨be 0,none,0,0,none,0,0,none,0,0,rfl,_,_,_,_,_,_,_,_,_,Ep.o.yX (xU.o _ Cp.o) _ _ _ _ _ _ _⟩
 | some p1 =>
   obtain⟨v5,rfl,FE,A8⟩:=Og;obtain⟨a5,n5,c5,rfl,A9⟩:=FE.var;have hinv:=dJ (t:=bF A B nc) TI.o (show aJ (bM C.length B.length) 1000 (bF A B nc)=some p1 by rw[<-z8.o];exact xC.o.symm);have R2:=ae hinv.1;have HQC:=ae (dT R2.o hinv.2.1).1;have YG:=ae hinv.2.2;obtain⟨e1,e2⟩:=bI.same A8 R2.o;have Qn:=e1.symm;have e2':=e2.symm;clear e1 e2;subst Qn;subst e2';have Ep:=ae A8;have xL:=ae FE;clear A8 FE hinv;obtain⟨u,hu⟩:=b8 (nc+na);have HU:=ae hu;have HN:=ae (show n5=u+1 by have h1:=A9.o;rw[HQC.o.1]at h1;omega);obtain⟨yb,xB,lx,ly,Da,H8,AJ,xM⟩:=xL.o.wK.at (show u<n5 by have:=HN.o;omega);subst Da;have Fi:=HQC.o.2 u b9;rw[H8]at Fi;have WN:=xL.o.wK.o3;have WM:=xL.o.wK.l9;have EI:=ae (show p1.costs[C.length+B.length]?.getD (0,0)=(lx,ly)by rw[z8.o,y4.o,<-HU.o];exact H8);have Rc:IntKind.i64.wrap ((n5:Int)-1)=(u:Int):=by have:=HN.o;rw[IntKind.wrap_i64];omega
   have IN:(u:Int)<(n5:Int):=by have:=HN.o;omega
   have Od:(0:Int)<=(u:Int):=by omega
   have AU:=ae (ma lx ly w5);obtain⟨sg,Cf⟩:=b8 (wU (lx,ly) (0,1));have CA:=ae (show sg<0↔lx<0 by rw[Cf];exact uN Fi);rw[<-Cf]at AU;obtain⟨l0,l1,l2,c0,c1,c2,c3,c4,cf⟩:=Ep.o.cells;clear Cf H8 hu Fi;go_wp2_with fail;refine AU.o.mono ?_;rintro e w6 ⟨rfl,hx⟩;have QB:=ae (Ep.o.ext hx);have BU:=ae (xL.o.ext hx);have IC:=ae (Cp.o.trans (Mod.of hx));clear hx Rc IN Od AJ xM l0 l1 l2 c0 c1 c2 c3 c4 cf q0 Z U R O J I G;obtain⟨l0,l1,l2,c0,c1,c2,c3,c4,cf⟩:=QB.o.cells;obtain⟨q0,Z,U,R,O,J,I,G⟩:=xS (xU.o _ IC.o);by_cases yP:sg<0
   ·have Es:=ae (show AV A B C=some ⟨2,[],(List.range na).map (dt B (1,1) p1.costs nc),[],(0,0),1000-p1.left⟩by
     unfold AV;rw[<-xC.o];simp only[Option.bind_some];rw[EI.o,if_pos (CA.o.1 yP),y4.o,z8.o])
    have Se:=ae (rA QB.o R2.o.q8 (AQ.o _ IC.o).b Ke ES BU.o.wK (by have:=HN.o;have:=HU.o;omega) (by have:=HN.o;have:=HU.o;omega) 1);go_wp2_with fail;refine Se.o.mono ?_;rintro e w7 ⟨⟨v7,rfl,Jw⟩,hx⟩;obtain⟨a7,n7,c7,rfl,E'⟩:=Jw.var;have Iy:=ae (QB.o.ext hx);have NY:=ae (IC.o.trans (Mod.of hx));have FR:=ae Jw;have hs67:=IC.o.size;clear hx Jw l0 l1 l2 c0 c1 c2 c3 c4 cf q0 Z U R O J I G;obtain⟨q0,Z,U,R,O,J,I,G⟩:=xS (xU.o _ NY.o);have UC:=ae ((Mod.of (S:=S) XW.o).trans NY.o);have D':=lt_of_block yA.o;go_wp2_with fail;refine bodyPost_ret (v:=A6 ⟨2,[],(List.range na).map (dt B (1,1) p1.costs nc),[],(0,0),0⟩ none 0 0 a7 n7 c7 none 0 0) (by simp[results,Tryz.results82,go_sem,q0,Z,U,R,O,J,I,G]) rfl ⟨UC.o.yX (Nat.le_refl _) _ _ _ _ _ _ _,?_⟩;rw[Es.o];refine⟨none,0,0,a7,n7,c7,none,0,0,rfl,⟨fun W _=>r8.DY W,?_,fun W _=>r8.DY W⟩,_,_,_,_,_,_,_,_,_,Iy.o.yX (xU.o _ NY.o) _ _ _ _ _ _ _,?_⟩
    ·exact(FR.o.keep fun i hi=>bL _ (j4 ((FR.o.lt i hi).1)) _ _ _ _ _ _ _).BD b9
    ·show((1000-p1.left:Nat):Int)=1000-(p1.left:Int);have:=YG.o;omega
   ·have Es:=ae (show AV A B C=(br nc (p1.t,p1.left) na).bind fun s=>(aJ (bK C na) s.2 s.1).map fun p2 =>
     if 0<=p2.wX then⟨3,(xV p2.t).take nc,[],ze p2.t nc p2.wX.toNat na,(0,0),1000-p2.left⟩
     else⟨1,(xV p2.t).take nc,(List.range na).map (dt B (0,1) p2.costs nc),[],wR (p2.costs[nc+na]?.getD (0,0)),1000-p2.left⟩by
     unfold AV;rw[<-xC.o];simp only[Option.bind_some];rw[EI.o,if_neg (fun h=>yP (CA.o.2 h)),y4.o,z8.o])
    have HDR:=ae (wv QB.o R2.o b9 b9 b9);have HLF:=ae (show 1000-(1000-p1.left)=p1.left by have:=YG.o;omega);rw[HLF.o]at HDR;go_wp2_with fail;refine HDR.o.mono ?_;rintro e w7 ⟨rfl,Va,ra7,rn7,rc7,ba7,bn7,bc7,vs7,Xh⟩;have NY:=ae (IC.o.trans Va);clear Va l0 l1 l2 c0 c1 c2 c3 c4 cf q0 Z U R O J I G;obtain⟨q0,Z,U,R,O,J,I,G⟩:=xS (xU.o _ NY.o);have UC:=ae ((Mod.of (S:=S) XW.o).trans NY.o);cases hd:br nc (p1.t,p1.left) na with
    | none =>
      rw[hd]at Xh;obtain⟨t7,n7,GZ⟩:=Xh;have Iy:=ae GZ;have DO:=ae (show AV A B C=none by rw[Es.o,hd];rfl);clear GZ hd;obtain⟨l0,l1,l2,c0,c1,c2,c3,c4,cf⟩:=Iy.o.cells;go_wp2_with fail;refine bodyPost_ret (v:=A6 (be 0) none 0 0 none 0 0 none 0 0) (by simp[results,Tryz.results82,go_sem,q0,Z,U,R,O,J,I,G,be]) rfl ⟨UC.o.yX (Nat.le_refl _) _ _ _ _ _ _ _,?_⟩;rw[DO.o];exact⟨be 0,none,0,0,none,0,0,none,0,0,rfl,_,_,_,_,_,_,_,_,_,Iy.o.yX (xU.o _ NY.o) _ _ _ _ _ _ _⟩
    | some st =>
      obtain⟨tt,lf⟩:=st;rw[hd]at Xh;have Rz:=fp (s:=(p1.t,p1.left)) R2.o hd;have HT:=ae (show xY nc na _ tt from Rz.1);have Xf:lf<=1000:=by have h1:=Rz.2;have h2:=YG.o;simp only at h1;omega
      have HD:=ae hd;have GZ:bI w7 S a na ca b na cb c nc cc ra7 rn7 rc7 ba7 bn7 bc7 vs7 tt (1000-lf) false:=Xh;obtain⟨e1,e2⟩:=bI.same GZ HT.o;have Qn:=e1.symm;have e2':=e2.symm;clear e1 e2 Xh;subst Qn;subst e2';have Iy:=ae GZ;clear GZ hd Rz;obtain⟨l0,l1,l2,c0,c1,c2,c3,c4,cf⟩:=Iy.o.cells;have UM:=ae (pB (AQ.o _ NY.o) false b9 b9);go_wp2_with fail;refine UM.o.mono ?_;rintro e w8 ⟨⟨v8,rfl,BN⟩,hx⟩;obtain⟨a8,n8,c8,rfl,FT⟩:=BN.var;have OG:=ae (Iy.o.ext hx);have HM8:=ae (NY.o.trans (Mod.of hx));have ZH:n8=nc+na:=by have h1:=FT.o;simp only[gW,Bool.false_eq_true,if_false,bK,List.length_append,List.length_replicate]at h1;rw[z8.o]at h1;omega
      have NM:=ae (pC OG.o HT.o b9 b9 b9 BN ZH (rO HVC.o _));clear BN hx ZH FT l0 l1 l2 c0 c1 c2 c3 c4 cf q0 Z U R O J I G;go_wp2_with fail;refine NM.o.mono ?_;rintro e w9 ⟨hm9,ra9,rn9,rc9,ba9,bn9,bc9,vs9,hp9⟩;have Y1:=ae (HM8.o.trans hm9);have S6:=HM8.o.size;obtain⟨o2,zY⟩:=b8 (aJ (bK C na) lf tt);have Mr:aJ (gW false C na) (1000-(1000-lf)) tt=o2:=by rw[zY,show 1000-(1000-lf)=lf by omega];rfl
      rw[Mr]at hp9;have yE:=ae zY
      have E7:=ae (show AV A B C=o2.map fun p2=>if 0<=p2.wX then⟨3,(xV p2.t).take nc,[],ze p2.t nc p2.wX.toNat na,(0,0),1000-p2.left⟩
       else⟨1,(xV p2.t).take nc,(List.range na).map (dt B (0,1) p2.costs nc),[],wR (p2.costs[nc+na]?.getD (0,0)),1000-p2.left⟩by
       rw[Es.o,HD.o,Option.bind_some,zY])
      clear Mr zY hm9;obtain⟨q0,Z,U,R,O,J,I,G⟩:=xS (xU.o _ Y1.o);have HMW9:=ae ((Mod.of (S:=S) XW.o).trans Y1.o);cases o2 with
      | none =>
        obtain⟨v9,col9,t9,n9,rfl,S9⟩:=hp9;have Ix:=ae S9;clear S9;obtain⟨l0,l1,l2,c0,c1,c2,c3,c4,cf⟩:=Ix.o.cells;go_wp2_with fail;refine bodyPost_ret (v:=A6 (be 0) none 0 0 none 0 0 none 0 0) (by simp[results,Tryz.results82,go_sem,q0,Z,U,R,O,J,I,G,be]) rfl ⟨HMW9.o.yX (Nat.le_refl _) _ _ _ _ _ _ _,?_⟩;rw[E7.o];exact⟨be 0,none,0,0,none,0,0,none,0,0,rfl,_,_,_,_,_,_,_,_,_,Ix.o.yX (xU.o _ Y1.o) _ _ _ _ _ _ _⟩
      | some p2 =>
        obtain⟨v9,rfl,J7,S9⟩:=hp9;obtain⟨a9,n9,c9,rfl,Kr⟩:=J7.var;have hinv:=dJ HT.o (show aJ (bK C na) lf tt=some p2 from yE.o.symm);have Az:=ae hinv.1;have JM:=ae (dT Az.o hinv.2.1).1;have Ut:=ae hinv.2.2;have zU:=pg HT.o (show aJ (bK C na) lf tt=some p2 from yE.o.symm);obtain⟨e1,e2⟩:=bI.same S9 Az.o;have Qn:=e1.symm;have e2':=e2.symm;clear e1 e2;subst Qn;subst e2';have Ix:=ae S9;have Ew:=ae J7;clear S9 J7 hinv;have Uo:=ae (fun(w':World) (hx:Ext w9 w')=>ru (Ix.o.ext hx).tb.Be Az.o b9 b9)
        have Hb:=ae (show(xV p2.t).length=nc+na by
         unfold xV;rw[if_pos (Az.o.ok b9),iJ,Az.o.q8,Az.o.len];simp)
        obtain⟨qc,U6⟩:=b8 p2.wX;rw[Option.map_some,<-U6]at E7;rw[<-U6]at zU⊢;have JQ:=ae (show n9=u+1 by have h1:=Kr.o;rw[JM.o.1]at h1;have:=HU.o;omega);have DM:=ae (show((1000-p2.left:Nat):Int)=1000-(p2.left:Int)by have:=Ut.o;omega);obtain⟨l0,l1,l2,c0,c1,c2,c3,c4,cf⟩:=Ix.o.cells;rw[Az.o.q8]at c2;have S9:=Y1.o.size;clear U6;go_upto_region 12 with fail;have k7:Ext w9 w9.drew:=Ext.drew w9;have k8:=ae (fun(w':World) (h:Ext w9 w')=>(⟨h.k6 c0,h.k6 c1,h.k6 c2,h⟩:w'.cell? ⟨S,3,none⟩=some (.slice ra9 na rc9)/\w'.cell? ⟨S,4,none⟩=some (.slice ba9 na bc9)/\w'.cell? ⟨S,5,none⟩=some (.int .i64 (nc:Int))/\Ext w9 w'));refine wp_region_held_drew (S:=(fun w'=>w'.cell? ⟨S,3,none⟩=some (.slice ra9 na rc9)/\w'.cell? ⟨S,4,none⟩=some (.slice ba9 na bc9)/\w'.cell? ⟨S,5,none⟩=some (.int .i64 (nc:Int))/\Ext w9 w')) e8 ?_ (fun k9=>?_)
        ·exact k8.o _ k7
        refine tk 0 ?_;refine tk 1 ?_;refine tk 2 ?_;refine tk 3 ?_;refine tk 5 ?_;refine tk 6 ?_;refine tk 7 ?_;refine tk 8 ?_;refine tk 9 ?_;refine rd (i:=4) (h:=fun K hK=>?_);go_simp
        (go_at_call 130;refine(Uo.o _ k7).mono ?_;rintro e IH ⟨⟨v10,rfl,Mv⟩,SX⟩;have WD:=k7.size;have k7:=k7.trans SX;obtain⟨ax,nx,cx,rfl,NV⟩:=Mv.var;have hcx1:=Mv.wK.o3;have hcx2:=Mv.wK.l9;have hcx3:(nc:Int)<=(cx:Int):=(by(have h1:=NV.o;rw[Hb.o]at h1;omega)))
        go_wp2_with fail;refine hK.out _ _ ?_ (fun k9=>?_)
        ·exact k8.o _ k7
        clear hK K
        try simp only[Act.put,sA,sB,sC]
        refine tk 10 ?_;refine tk 11 ?_;refine wpAnyH_done e8 ?_ _;have QG:=ae (Mv.mono WD);have Ex:=ae (show nc<=nx by have h1:=NV.o;rw[Hb.o]at h1;omega);have GO:=ae (Ix.o.ext k7);have Co:=ae (Ew.o.ext k7);have GQ:=ae (Y1.o.trans (Mod.of k7));have NX:=ae ((Mod.of (S:=S) XW.o).trans GQ.o);clear k7 Mv l0 l1 l2 c0 c1 c2 c3 c4 cf q0 Z U R O J I G hcx1 k9 k8;have D':=lt_of_block yA.o
        rcases zU with hc|⟨jc,hc,MD⟩
        ·subst hc
         have OI:=ae (show AV A B C=some ⟨1,(xV p2.t).take nc,(List.range na).map (dt B (0,1) p2.costs nc),[],wR (p2.costs[nc+na]?.getD (0,0)),1000-p2.left⟩by
          rw[E7.o,if_neg b9])
         have Se:=ae (fun(w':World) (hx:Ext IH w')=>rA (GO.o.ext hx) Az.o.q8 (AQ.o _ (GQ.o.trans (Mod.of hx))).b Ke ES (Co.o.ext hx).wK (by have:=JQ.o;have:=HU.o;omega) (by have:=JQ.o;have:=HU.o;omega) 0);obtain⟨UU,Ff,vx,vy,Da,H8,AJ,xM⟩:=Co.o.wK.at (show u<n9 by have:=JQ.o;omega);subst Da;have AD:=JM.o.2 u (j4 HU.o);rw[H8]at AD;have AD:=aQ AD;have PH:-9223372036854775807<=vx:=by have:=AD.2.2.1;simp only at this;omega
         have PG:vx<=9223372036854775807:=by have:=AD.2.2.2;simp only at this;omega
         have HLV2:=ae H8;have It:=ae (show wR (p2.costs[nc+na]?.getD (0,0))=(-vx,vy)by rw[<-HU.o,H8];rfl);have hr9a:=Co.o.wK.o3;have hr9b:=Co.o.wK.l9;have Rc:IntKind.i64.wrap ((n9:Int)-1)=(u:Int):=by have:=JQ.o;rw[IntKind.wrap_i64];omega
         have IN:(u:Int)<(n9:Int):=by have:=JQ.o;omega
         have Od:(0:Int)<=(u:Int):=by omega
         clear H8 AD;go_upto_region 15 with fail;have k7:Ext IH IH.drew:=Ext.drew IH;have k8:=ae (fun(w':World) (h:Ext IH w')=>(⟨h.k6 AJ,h.k6 xM,NX.o.trans (Mod.of h)⟩:w'.cell? ⟨UU,Ff+u*2,none⟩=some (.int .i64 vx)/\w'.cell? ⟨UU,Ff+u*2+1,none⟩=some (.int .i64 vy)/\Mod S w w'));refine wp_region_held_drew (S:=(fun w'=>w'.cell? ⟨UU,Ff+u*2,none⟩=some (.int .i64 vx)/\w'.cell? ⟨UU,Ff+u*2+1,none⟩=some (.int .i64 vy)/\Mod S w w')) e8 ?_ (fun k9=>?_)
         ·exact k8.o _ k7
         refine tk 0 ?_;refine tk 1 ?_;refine tk 2 ?_;refine tk 4 ?_;refine tk 5 ?_;refine tk 6 ?_;refine tk 7 ?_;refine tk 8 ?_;refine tk 9 ?_;refine rd (i:=3) (h:=fun K hK=>?_);go_simp
         (go_at_call 128;refine(Se.o _ k7).mono ?_;rintro e IG ⟨⟨v12,rfl,H5⟩,Bi⟩;have Ml:=k7.size;have k7:=k7.trans Bi;obtain⟨a12,n12,c12,rfl,HN12⟩:=H5.var;have QH:=ae (H5.mono Ml);clear H5)
         go_wp2_with fail;refine hK.out _ _ ?_ (fun k9=>?_)
         ·exact k8.o _ k7
         clear hK K
         try simp only[Act.put,sA,sB,sC]
         refine rd (i:=10) (h:=fun K hK=>?_);go_simp
         (go_at_call 36;refine(fE vx vy _ PH PG).mono ?_;rintro e Jo ⟨rfl,L8⟩;have k7:=k7.trans L8;have Bd:=ae (QH.o.ext L8);have Y2:=ae (GQ.o.trans (Mod.of k7));have R8:=ae (NX.o.trans (Mod.of k7));have Zj:=ae (Co.o.ext k7);obtain⟨q0,Z,U,R,O,J,I,G⟩:=xS (xU.o _ Y2.o))
         go_wp2_with fail;refine hK.out _ _ ?_ (fun k9=>?_)
         ·exact k8.o _ k7
         clear hK K
         try simp only[Act.put,sA,sB,sC]
         refine tk 11 ?_
         have Y6:=ae (fun(x0 x1 x2 x3 x4 x5 x6:Value)=>(show(fun w'=>w'.cell? ⟨UU,Ff+u*2,none⟩=some (.int .i64 vx)/\w'.cell? ⟨UU,Ff+u*2+1,none⟩=some (.int .i64 vy)/\Mod S w w') (((((((Jo.setCell ⟨w.heap.size,0,none⟩ x0).setCell ⟨w.heap.size,1,none⟩ x1).setCell ⟨w.heap.size,2,none⟩ x2).setCell ⟨w.heap.size,3,none⟩ x3).setCell ⟨w.heap.size,4,none⟩ x4).setCell ⟨w.heap.size,5,none⟩ x5).setCell ⟨w.heap.size,6,none⟩ x6)from by
          have hc:=(Zj.o.keep (w':=(((((((Jo.setCell ⟨w.heap.size,0,none⟩ x0).setCell ⟨w.heap.size,1,none⟩ x1).setCell ⟨w.heap.size,2,none⟩ x2).setCell ⟨w.heap.size,3,none⟩ x3).setCell ⟨w.heap.size,4,none⟩ x4).setCell ⟨w.heap.size,5,none⟩ x5).setCell ⟨w.heap.size,6,none⟩ x6)) fun k hk=>bL _ (j4 ((Zj.o.lt k hk).1)) _ _ _ _ _ _ _).Qr (show u<n9 by have:=JQ.o;omega) HLV2.o
          exact⟨hc.1,hc.2,R8.o.yX (Nat.le_refl _) _ _ _ _ _ _ _⟩))
         refine rd (i:=12) (h:=fun K hK=>?_);go_simp;refine hK.out _ _ ?_ (fun k9=>?_)
         ·exact Y6.o _ _ _ _ _ _ _
         clear hK K
         try simp only[Act.put,sA,sB,sC]
         refine wpAnyH_done e8 ?_ _;go_wp2_with fail;refine bodyPost_ret (v:=A6 ⟨1,(xV p2.t).take nc,(List.range na).map (dt B (0,1) p2.costs nc),[],(-vx,vy),0⟩ ax nc cx a12 n12 c12 none 0 0) (by simp[results,Tryz.results82,go_sem,q0,Z,U,R,O,J,I,G]) rfl ⟨R8.o.yX (Nat.le_refl _) _ _ _ _ _ _ _,?_⟩;rw[OI.o,It.o];refine⟨ax,nc,cx,a12,n12,c12,none,0,0,rfl,⟨?_,?_,fun W _=>r8.DY W⟩,_,_,_,_,_,_,_,_,_,(GO.o.ext k7).yX (xU.o _ Y2.o) _ _ _ _ _ _ _,DM.o⟩
         ·exact((QG.o.ext k7).keep fun i hi=>bL _ (j4 ((QG.o.lt i hi).1)) _ _ _ _ _ _ _).Fz b9 Ex.o
         ·exact(Bd.o.keep fun i hi=>bL _ (by have:=(Bd.o.lt i hi).1;have:=GQ.o.size;omega) _ _ _ _ _ _ _).BD (j4 GQ.o.size)
        ·subst hc
         have OI:=ae (show AV A B C=some ⟨3,(xV p2.t).take nc,[],ze p2.t nc jc na,(0,0),1000-p2.left⟩by
          rw[E7.o,if_pos b9,Int.toNat_natCast])
         have HRY:=ae (O5 GO.o Az.o b9 b9 MD);go_wp2_with fail;refine HRY.o.mono ?_;rintro e IG ⟨⟨v12,rfl,H5⟩,Bi⟩;obtain⟨a12,n12,c12,rfl,HN12⟩:=H5.var;have QH:=ae H5;have Qz:=ae Bi;have JS:=ae (GQ.o.trans (Mod.of Bi));have YY:=ae (NX.o.trans (Mod.of Bi));clear H5 Bi;obtain⟨q0,Z,U,R,O,J,I,G⟩:=xS (xU.o _ JS.o);go_wp2_with fail;refine bodyPost_ret (v:=A6 ⟨3,(xV p2.t).take nc,[],ze p2.t nc jc na,(0,0),0⟩ ax nc cx none 0 0 a12 n12 c12) (by simp[results,Tryz.results82,go_sem,q0,Z,U,R,O,J,I,G]) rfl ⟨YY.o.yX (Nat.le_refl _) _ _ _ _ _ _ _,?_⟩;rw[OI.o];refine⟨ax,nc,cx,none,0,0,a12,n12,c12,rfl,⟨?_,fun W _=>r8.DY W,?_⟩,_,_,_,_,_,_,_,_,_,(GO.o.ext Qz.o).yX (xU.o _ JS.o) _ _ _ _ _ _ _,DM.o⟩
         ·exact((QG.o.ext Qz.o).keep fun i hi=>bL _ (j4 ((QG.o.lt i hi).1)) _ _ _ _ _ _ _).Fz b9 Ex.o
         ·exact(QH.o.keep fun i hi=>bL _ (by have:=(QH.o.lt i hi).1;have:=GQ.o.size;omega) _ _ _ _ _ _ _).BD (j4 GQ.o.size)
end
end Go.Proofs.YtalmoolkhcgmmaaGreat
