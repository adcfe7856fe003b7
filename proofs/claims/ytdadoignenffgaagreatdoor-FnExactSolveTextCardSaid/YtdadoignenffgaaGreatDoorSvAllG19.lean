import Derived.Test.YtdadoignenffgaaGreatDoorSvAllG18
import Derived.Outline
import Derived.Test.YtdadoignenffgaaGreatDoorSvAllG14
set_option linter.unusedVariables false
set_option linter.unusedSimpArgs false
namespace Go.Proofs.YtdadoignenffgaaGreatDoor
variable{S n m:Nat}{w w':World}{t:Tb}{T0:Nat->Nat->Rat}{cost cs:j4}
set_option maxHeartbeats 16000000
set_option maxRecDepth 100000
open Go.RowKit
section
variable{w:World}{ra:j6}{rn rc:Nat}{ba:j6}{bn bc:Nat}{t:Tb}
theorem lI(h:Ds w ra rn rc ba bn bc t)(zu:rn<=100000)(Dn:bn<=100000)(hval:∀i j,-9223372036854775807<=(t.at i j).1/\(t.at i j).1<=9223372036854775807)(row ve:Int)(FR:dT t row ve=true):
 Calls Tryz.prog 235 #[CR ra rn rc ba bn bc t.q8,.int .i64 row,.int .i64 ve] w fun e w'=>Ho w' w.heap.size e (dk t row ve) (bo t row ve).isSome/\Ext w w':=by
 have uS:=(Ext.alloc w (bT ra rn rc ba bn bc t.q8)).trans (Ext.alloc _ (.cells #[.slice none 0 0,.slice none 0 0,.int .i64 0] 116));obtain⟨W,hW⟩:=b9 ((w.alloc (bT ra rn rc ba bn bc t.q8)).alloc (.cells #[.slice none 0 0,.slice none 0 0,.int .i64 0] 116));rw[<-hW]at uS;have uV:=ae uS;have H:=ae (h.ext uS);have wj:yO t=true:=by unfold dT at FR;simp only[Bool.and_eq_true]at FR;exact FR.1
 have HF:=ae (gT H.o e7);rw[wj]at HF;obtain⟨m,Ep,hm,CY,G9,No⟩:=ft h wj;subst CY;have CS:∀i,i<bn->(t.row i).length<=1048576:=fun i hi=>by rw[G9 i hi];omega
 have zA:=ae (fun(w':World) (hx:Ext W w')=>iy (H.o.ext hx) e7 e7 CS);have wL:=ae (show W.heap[w.heap.size+1]?=some (.cells #[.slice none 0 0,.slice none 0 0,.int .i64 0] 116 (0,0))by rw[hW];exact aj _ _ _ e8);have uW:=ae (show W.heap[w.heap.size]?=some (.cells #[.slice ra bn rc,.slice ba bn bc,.int .i64 t.q8] 116 (0,0))by rw[hW,bU _ _ _ e8];exact aj _ _ _ rfl);have zx:=ae (show W.heap.size=w.heap.size+1+1 by rw[hW];simp);have xm:=h.rows.l8;have yI:=h.rows.o0;obtain⟨rows,basis,x⟩:=t;simp only at Ep;subst Ep;have xE:=ae (show rows.length=bn from h.rows.hlen);have xi:=ae (show basis.length=bn from h.basis.hlen);have wq:r' row 0 ((bn:Int)-1)=true/\r' ve 0 ((m:Int)+(bn:Int)-1)=true:=by
  have:=FR;unfold dT at this;simp only[Bool.and_eq_true]at this;rw[h.rows.hlen]at this;exact this.2
 obtain⟨M9,F5⟩:=wq;obtain⟨r,rfl⟩:∃r:Nat,row=r:=⟨row.toNat,by simp[r']at M9;omega⟩;obtain⟨c,rfl⟩:∃c:Nat,ve=c:=⟨ve.toNat,by simp[r']at F5;omega⟩;have O:r<bn:=by simp[r']at M9;omega
 obtain⟨u,hu⟩:=b9 (m+bn+1);have LK:c<u:=by simp[r']at F5;omega
 have RB:u<=200000:=by omega
 have Bg:=ae (fun w=>aJ (r:Int) 0 ((bn:Int)-1) w);have Ai:=ae (fun w=>aJ (c:Int) 0 ((m:Int)+(bn:Int)-1) w);simp only[M9]at Bg;simp only[F5]at Ai;obtain⟨T,hT⟩:=b9 (Tb.mk rows basis (m:Int));have xW:=ae (show∀i,i<bn->(T.row i).length=u by rw[hT,hu];exact G9);rw[<-hT]at FR;have Uf:=ae (iW FR);have NO:=ae (show T.rows=rows/\T.basis=basis/\T.q8=(m:Int)by rw[hT];exact⟨rfl,rfl,rfl⟩);have zD:=ae (show∀i,T.row i=rows[i]?.getD []by intro i;rw[hT];rfl);rw[<-hT]at zA;have HH:=ae (show fF W ra bn rc rows from H.o.rows);have B6:=ae (show T.q8=(m:Int)by rw[hT]);rw[<-hT]at hval;have Un:=ae hval;clear hval;rw[B6.o]at zA;clear h uS CS FR M9 F5 wj G9 No hu H;have JY:dk (Tb.mk rows basis (m:Int)) (r:Int) (c:Int)=dk T (r:Int) (c:Int)/\bo (Tb.mk rows basis (m:Int)) (r:Int) (c:Int)=bo T (r:Int) (c:Int):=by rw[hT];exact⟨rfl,rfl⟩
 rw[JY.1,JY.2];clear JY hT
 show Calls _ _ #[CR ra bn rc ba bn bc (m:Int),.int .i64 (r:Int),.int .i64 (c:Int)] w _;have hrr:(r:Int)<(bn:Int):=by omega
 have xA:(0:Int)<=(r:Int):=by omega
 go_enter Tryz.func235,Tryz.ntmps235
 go_upto_region 1 with fail;rw[<-hW];clear hW;have p0:=al uW.o;have p1:=au uW.o;have p2:=av uW.o;go_wp2_with fail;refine HF.o.mono ?_;rintro e w1 ⟨rfl,hx⟩;have X1:=ae hx;clear hx p0 p1 p2;have p0:=al (X1.o.blk uW.o);have p1:=au (X1.o.blk uW.o);have p2:=av (X1.o.blk uW.o);go_wp2_with fail;refine(Bg.o _).mono ?_;rintro e w1' ⟨rfl,rfl⟩;go_wp2_with fail;refine(Ai.o _).mono ?_;rintro e w1' ⟨rfl,rfl⟩;go_wp2_with fail;refine(zA.o _ X1.o).mono ?_;rintro e w2 ⟨⟨va,vb,vs,rfl,ho⟩,hx⟩;have X2:=ae (X1.o.trans hx);obtain⟨aa,na,ca,rfl,O7⟩:=ho.a.var;obtain⟨ab,nb,cb,rfl,Ef⟩:=ho.b.var;obtain rfl:na=bn:=by have h1:=ho.rows.len;have h2:=NO.o.1;have h3:=xE.o;have h4:=O7.o;rw[h2]at h1;omega
 obtain rfl:nb=na:=by have h1:=Ef.o;have h2:=NO.o.2.1;have h3:=xi.o;rw[h2]at h1;omega
 obtain⟨G,hG,_,_⟩:=ho.a.cell O;subst hG;obtain⟨B,hB,_,_,_⟩:=ho.b.block O;subst hB;obtain⟨E,hE⟩:=b9 (w2.alloc (.cells #[.slice (some ⟨G,0,none⟩) nb ca,.slice (some ⟨B,0,none⟩) nb cb,.int .i64 (m:Int)] 116));have yD:Ext w2 E:=by rw[hE];exact Ext.alloc _ _
 have Qk:w1.heap.size<=w2.heap.size:=hx.size;have HVS:=ae (fun i g' (hi:i<nb) (he:(vs[i]?.getD undef).ownBlock=some g')=>((ho.rows.row i (by rw[NO.o.1,xE.o];exact hi)).lt g' he).2)
 have IB:=ae (show BZ E w1.heap.size w2.heap.size G nb ca (.slice (some ⟨B,0,none⟩) nb cb) (m:Int) vs rows basis from
  ⟨by rw[hE];exact aj _ _ _ rfl,Qk,⟨ho.a.ext yD,by have:=ho.rows.ext yD;rw[NO.o.1]at this;exact this⟩,by have:=ho.b.ext yD;rw[NO.o.2.1]at this;exact this⟩)
 have XE:=ae (X2.o.trans yD);have Uc:=ae (hx.trans yD);have PO:w.heap.size+1+1<=w1.heap.size:=by have:=X1.o.size;have:=zx.o;omega
 have hsE:w1.heap.size<=E.heap.size:=by have:=yD.size;omega
 have Zv:=ae yD.size;clear ho p0 p1 p2 hx;go_upto_region 4 with fail;rw[<-hE];clear hE yD;have p0:=al (XE.o.blk uW.o);obtain⟨zb,vF,za,U,zc,zX,JG,o7⟩:=HH.o.at O;subst zX;have G4:U=u:=by rw[<-o7.hlen,<-zD.o];exact xW.o r O
 subst G4;have Xf:=o7.l8;have Xe:=o7.o0;have ze:=ae (show Rats W za U zc (T.row r)by rw[zD.o];exact o7);have Hp:=ae JG;obtain⟨pb,FO,pp,pq,Xl,AP,CV,Dk⟩:=(ze.o.ext XE.o).at LK;subst Xl;have xr:=XE.o.j9 Hp.o;have B1:=ae (show T.at r c=(pp,pq)from AP);have H6:=ae (xW.o r O);have hcc:(c:Int)<(U:Int):=by omega
 have wK:(0:Int)<=(c:Int):=by omega
 clear AP o7 JG;obtain⟨E2,Nr⟩:=b9 (E.alloc (.cells #[.int .i64 pp,.int .i64 pq] 62));have PD:Ext E E2:=by rw[Nr];exact Ext.alloc _ _
 have SY:E2.heap.size=E.heap.size+1:=by rw[Nr];simp
 have HM1:=ae (IB.o.ext PD);have Q7:=ae (show E2.heap[E.heap.size]?=some (.cells #[.int .i64 pp,.int .i64 pq] 62 (0,0))by rw[Nr];exact aj _ _ _ rfl);have QN:=ae (Uc.o.trans PD);have hw2E:w2.heap.size<=E.heap.size:=Zv.o;have HSE2:=ae SY;go_upto_region 5 with fail;rw[<-Nr];clear Nr PD p0 xr CV Dk SY;have p0:=al ((X1.o.trans QN.o).blk uW.o);have xr:=(X1.o.trans QN.o).j9 Hp.o;go_wp2_with fail
 go_loopg [60] U (fun gk ii wr=>∃(k:Nat) (I:j4),b7 (gk+k=U)/\ii=.int .i64 (k:Int)/\b7 (runT (CF (T.row r) (T.at r c)) k=some I)/\b7 (BZ wr w1.heap.size w2.heap.size G nb ca (.slice (some ⟨B,0,none⟩) nb cb) (m:Int) vs (rows.set r (I++(T.row r).drop k)) basis)/\b7 (Ext w1 wr)/\b7 (wr.heap[E.heap.size]?=some (.cells #[.int .i64 pp,.int .i64 pq] 62 (0,0))))
 case atStart =>
  refine⟨0,[],ae e7,rfl,ae rfl,ae ?_,QN,Q7⟩;have h1:=HM1.o;have h2:rows.set r ([]++(T.row r).drop 0)=rows:=by
   rw[List.nil_append,List.drop_zero,zD.o];refine List.ext_getElem? fun i=>?_
   by_cases hir:r=i
   ·subst hir;rw[List.getElem?_set_self (by rw[xE.o];exact O),List.getElem?_eq_getElem (by rw[xE.o];exact O)];rfl
   ·rw[List.getElem?_set_ne hir]
  rw[h2];exact h1
 case round =>
  obtain⟨g1,o6⟩:=b9 gk;subst o6;obtain⟨o8,o4⟩:=b9 wr;subst o4;obtain⟨k,I,HK,rfl,Fl,HT,HX,HP⟩:=hrel;clear p0 xr;have MV:=HX.o.size;have BR:=lt_of_block HP.o;by_cases hlt:k<U
  ·obtain⟨xb,II,ex,ey,Om,SD,uS,vO⟩:=(ze.o.ext (X1.o.trans HX.o)).at hlt;simp only[Option.some.injEq,Addr.mk.injEq,and_true]at Om;obtain⟨rfl,rfl⟩:=Om;have HXV:=ae SD;have q0:o8.cell? ⟨E.heap.size,0,none⟩=some (.int .i64 pp):=(ah HP.o).1;have q1:o8.cell? ⟨E.heap.size,1,none⟩=some (.int .i64 pq):=(ah HP.o).2.1;obtain⟨d1,d2,BY,hdd⟩:∃x y ok,xk (ex,ey) (pp,pq)=((x,y),ok):=⟨_,_,_,rfl⟩;have Ic:=ae (show CF (T.row r) (T.at r c) k=if BY=true then some (d1,d2) else none by unfold CF;rw[HXV.o,B1.o,hdd]);have Fq:=ae (fun w=>oT ex ey pp pq w);simp only[hdd]at Fq;clear SD hdd;go_wp2_with fail;refine(Fq.o _).mono ?_;rintro e w5 ⟨rfl,hx⟩;have X5:=ae ((Ext.alloc o8 (.cells #[.int .i64 ex,.int .i64 ey] 62)).trans hx);have X6:=ae (X5.o.trans (Ext.alloc w5 (.cells #[.int .i64 d1,.int .i64 d2] 62)));have Bm:=X5.o.size;clear hx q0 q1;obtain⟨E5,RV⟩:=b9 (w5.alloc (.cells #[.int .i64 d1,.int .i64 d2] 62));have HQ:=ae (show E5.heap[w5.heap.size]?=some (.cells #[.int .i64 d1,.int .i64 d2] 62 (0,0))by rw[RV];exact aj _ _ _ rfl);rw[<-RV]at X6;cases BY
   ·have HN:=ae (show bo T (r:Int) (c:Int)=none by
     rw[Uf.o];refine iV ?_
     unfold Ad;rw[H6.o];exact fQ Fl.o (by rw[Ic.o];rfl) hlt)
    go_upto_region 10 with fail;rw[<-RV];clear RV;have Z:=((X1.o.trans HX.o).trans X6.o);have p0:=al (Z.blk uW.o);have p1:=au (Z.blk uW.o);have p2:=av (Z.blk uW.o);have XF:=ae Z;clear Z;go_wp2_with fail;refine(zA.o _ XF.o).mono ?_;rintro e w8 ⟨⟨Vn,Vm,Me,rfl,Ap⟩,hx⟩;have X8:=ae (XF.o.trans hx);have FD:=ae Ap;obtain⟨a7,n7,c7,rfl,DP⟩:=Ap.a.var;obtain⟨a8,n8,c8,rfl,Eg⟩:=Ap.b.var;have r0:=al (X8.o.blk wL.o);have r1:=au (X8.o.blk wL.o);have r2:=av (X8.o.blk wL.o);have rf:=cO (X8.o.blk wL.o);have hsz:=XF.o.size;have Gx:=zx.o;clear hx Ap p0 p1 p2;go_wp2_with fail;refine bodyPost_ret (v:=.tuple #[.agg #[.slice a7 n7 c7,.slice a8 n8 c8,.int .i64 (m:Int)],.bool false]) (by simp[results,Tryz.results235,go_sem,r0,r1,r2,rf]) rfl ⟨?_,(uV.o.trans X8.o).zl (Nat.le_succ _) _ _ _⟩;refine⟨.slice a7 n7 c7,.slice a8 n8 c8,Me,?_,?_⟩
    ·unfold dk;rw[HN.o,Option.getD_none,B6.o];rfl
    ·unfold dk;rw[HN.o,Option.getD_none];exact(FD.o.wW fun k hk=>cz _ _ _ _ _ _ e7).mono e7
   ·go_upto_region 11 with fail;rw[<-RV];clear RV;have Lj:=ae (ec (x:=(d1,d2)) Fl.o (by rw[Ic.o];rfl));have NW:=ae (dp Fl.o);have LS:=ae (HT.o.ext X6.o);have K9:=ae (show(rows.set r (I++(T.row r).drop k))[r]?.getD []=I++(T.row r).drop k by rw[List.getElem?_set_self (by rw[xE.o];exact O)];rfl);have xg:=ae (show(I++(T.row r).drop k).length=U by rw[List.length_append,List.length_drop,NW.o,H6.o];omega);obtain⟨rg,rcap,SJ,hcr,J7,_,RS,Ev,xB,zC⟩:=LS.o.m.row O (n:=U) (by rw[K9.o,xg.o]) e7;obtain⟨rg',_,_,_,Qd,_,ho0,M3⟩:=J7.uZ.at hlt;simp only[Option.some.injEq,Addr.mk.injEq,and_true]at Qd;obtain⟨rfl,rfl⟩:=Qd;obtain⟨rg',Qd,_,DN,_⟩:=J7.block hlt;simp only[Option.some.injEq,Addr.mk.injEq,and_true]at Qd;subst Qd;have c8:=LS.o.c0;have q0:E5.cell? ⟨w5.heap.size,0,none⟩=some (.int .i64 d1):=(ah HQ.o).1;have q1:E5.cell? ⟨w5.heap.size,1,none⟩=some (.int .i64 d2):=(ah HQ.o).2.1;have BU:(0:Int)<=(k:Int):=by omega
    have yx:(k:Int)<(U:Int):=by omega
    have Um:=ae SJ;have S5:rg≠E.heap.size:=by have:=HVS.o r rg O (by rw[Um.o];rfl);omega
    have FE:=ae S5;clear SJ J7 S5;rw[Nat.zero_add]at ho0 M3
    go_still_tail 8,e9
    have HT6:=ae (show BZ ((E5.drew.setCell ⟨rg,k*2,none⟩ (.int .i64 d1)).setCell ⟨rg,k*2+1,none⟩ (.int .i64 d2)) w1.heap.size w2.heap.size G nb ca (.slice (some ⟨B,0,none⟩) nb cb) (m:Int) vs (rows.set r ((I++[(d1,d2)])++(T.row r).drop (k+1))) basis by
     have h1:=(LS.o.ext (Ext.drew E5)).Ck O Um.o (j:=k) (by rw[K9.o,xg.o];exact hlt) d1 d2;rw[K9.o,List.set_set,QF NW.o (by rw[H6.o];exact hlt)]at h1
     exact h1)
    have BA:=ae (((HX.o.trans (X6.o.trans (Ext.drew E5))).setCell (p:=⟨rg,k*2,none⟩) RS (.int .i64 d1)).setCell (p:=⟨rg,k*2+1,none⟩) RS (.int .i64 d2))
    have V1:=ae (show((E5.drew.setCell ⟨rg,k*2,none⟩ (.int .i64 d1)).setCell ⟨rg,k*2+1,none⟩ (.int .i64 d2)).heap[E.heap.size]?=some (.cells #[.int .i64 pp,.int .i64 pq] 62 (0,0))by
     rw[heap_setCell_other _ _ _ _ FE.o.symm,heap_setCell_other _ _ _ _ FE.o.symm];exact(X6.o.trans (Ext.drew E5)).blk HP.o)
    go_wp2_with fail
    go_roundg (g1-1)
    case measure=>have:=HK.o;omega
    case rel=>exact⟨k+1,I++[(d1,d2)],ae (j1 HK.o),by go_num,Lj,HT6,BA,V1⟩
  ·have vZ:U=k:=by have:=HK.o;omega
   subst vZ;have BD:=ae (show Ad (T.row r) (T.at r c)=some I by unfold Ad;rw[H6.o];exact Fl.o)
   have Ld:=ae (show bo T (r:Int) (c:Int)=(xy T r c I nb).map fun rs=>⟨rs,basis.set r (c:Int),(m:Int)⟩by
    rw[Uf.o,ks BD.o,NO.o.1,xE.o,NO.o.2.1,B6.o])
   have Us:=ae (show BZ o8 w1.heap.size w2.heap.size G nb ca (.slice (some ⟨B,0,none⟩) nb cb) (m:Int) vs (rows.set r I) basis by
    have h1:=HT.o
    rw[List.drop_eq_nil_of_le (by rw[H6.o];exact Nat.le_refl _),List.append_nil]at h1;exact h1)
   have p0:=al ((X1.o.trans HX.o).blk uW.o);clear BR;go_wp2_with fail
   go_loopg [87] nb (fun gk ii wr=>∃(k:Nat) (Q:List Value) (M:List (j4)),b7 (gk+k=nb)/\ii=.int .i64 (k:Int)/\b7 (xy T r c I k=some M)/\b7 (BZ wr w1.heap.size w2.heap.size G nb ca (.slice (some ⟨B,0,none⟩) nb cb) (m:Int) Q M basis)/\b7 (Ext w1 wr))
   case atStart=>exact⟨0,vs,rows.set r I,ae e7,rfl,ae (by simp only[xy,NO.o.1]),Us,HX⟩
   case round =>
    obtain⟨g2,wv⟩:=b9 gk;subst wv;obtain⟨J,vo⟩:=b9 wr;subst vo;obtain⟨k,Q,M,Gp,rfl,EC,zO,wF⟩:=hrel;clear p0;have WW:=wF.o.size;by_cases wm:k<nb
    ·obtain⟨zb2,Sg,ya,yn,yc,JF,Py,zZ⟩:=(HH.o.ext (X1.o.trans wF.o)).at wm;simp only[Option.some.injEq,Addr.mk.injEq,and_true]at JF;obtain⟨rfl,rfl⟩:=JF;obtain rfl:yn=U:=by rw[<-zZ.hlen,<-zD.o,<-H6.o,xW.o k wm,xW.o r O]
     have Iy:=ae (show Rats J ya yn yc (T.row k)by rw[zD.o];exact zZ);obtain⟨yb,vB,p,q,Bs,vK,AL,xG⟩:=Iy.o.at LK;subst Bs;have wI:=ae (show T.at k c=(p,q)from vK);have Wz:=zZ.l8;have Wy:=zZ.o0;clear vK zZ;have CK:=ae (show decide (k=r∨T.at k c=(0,1))=(decide (k=r)||((p == 0)&&(q == 1)))by rw[wI.o,Bool.eq_iff_iff];simp);go_upto_region 16 with fail
     go_cut [102] (fun Pr wx=>Pr=.bool (decide (k=r∨T.at k c=(0,1)))/\b7 (Ext J wx))
     case first =>
      have k7:Ext J J.drew:=Ext.drew J;by_cases hkr:k=r
      ·have heq:((k:Int) == (r:Int))=true:=by simp;omega
       have N6:=ae (show decide (k=r∨T.at k c=(0,1))=true by rw[CK.o,decide_eq_true hkr];rfl);clear hkr;refine wp_region_held_drew (S:=(fun w'=>w'.cell? ⟨yb,vB+c*2,none⟩=some (.int .i64 p)/\w'.cell? ⟨yb,vB+c*2+1,none⟩=some (.int .i64 q)/\Ext J w')) e9 ?_ (fun k9=>?_)
       ·exact⟨k7.j9 AL,k7.j9 xG,k7⟩
       refine tk 0 ?_;refine tk 1 ?_;refine tk 2 ?_;refine tk 3 ?_;refine sk 4 ?_;refine sk 5 ?_;refine sk 6 ?_;refine sk 7 ?_;refine sk 8 ?_;refine sk 9 ?_;refine tk 10 ?_;refine wpAnyH_done e9 ?_ _;go_wp2_with fail;go_meet;exact⟨by rw[N6.o],ae k7⟩
      ·have heq:((k:Int) == (r:Int))=false:=by simp;omega
       have N6:=ae (show decide (k=r∨T.at k c=(0,1))=((p == 0)&&(q == 1))by rw[CK.o,decide_eq_false hkr];rfl);clear hkr;cases h1:(p == 0)
       all_goals
        cases h2:(q == 1)
       all_goals
        have Pb:=ae N6.o;rw[h1,h2]at Pb;refine wp_region_held_drew (S:=(fun w'=>w'.cell? ⟨yb,vB+c*2,none⟩=some (.int .i64 p)/\w'.cell? ⟨yb,vB+c*2+1,none⟩=some (.int .i64 q)/\Ext J w')) e9 ?_ (fun k9=>?_)
        ·exact⟨k7.j9 AL,k7.j9 xG,k7⟩
        refine tk 0 ?_;refine tk 1 ?_;refine tk 2 ?_;refine tk 3 ?_;refine tk 4 ?_;refine tk 5 ?_;refine tk 6 ?_;refine tk 7 ?_;refine rd (i:=8) (h:=fun K hK=>?_);go_simp
        (go_at_call 71;refine(cv _ _).mono ?_;rintro e w3 ⟨rfl,vj⟩;have k7:=k7.trans vj)
        go_wp2_with fail;refine hK.out _ _ ?_ (fun k9=>?_)
        ·exact⟨k7.j9 AL,k7.j9 xG,k7⟩
        clear hK K
        try simp only[Act.put,sA,sB,sC]
        refine tk 9 ?_;refine tk 10 ?_;refine wpAnyH_done e9 ?_ _;go_wp2_with fail;go_meet;exact⟨by rw[Pb.o];rfl,ae k7⟩
     obtain⟨rfl,Bz⟩:=hcut;have K4:=ae (zO.o.ext Bz.o);have vk:=ae (wF.o.trans Bz.o);have Q3:=ae (Iy.o.ext Bz.o);replace AL:=Bz.o.j9 AL;replace xG:=Bz.o.j9 xG;clear Py;cases hsk:decide (k=r∨T.at k c=(0,1))
     ·have Rd:=ae (of_decide_eq_false hsk);clear hsk;have HPM:=ae (nO (t:=T) (by rw[NO.o.1,xE.o];exact O) EC.o);obtain⟨mg,Sq,hvm,D2,Xq,_,_,_,hmc1,hmc2⟩:=K4.o.m.row O (n:=I.length) (by rw[HPM.o.2]) (by rw[dp Fl.o];omega);rw[HPM.o.2]at Xq;have R':=ae Xq.uZ;have B4:=ae (dp Fl.o);obtain⟨mn,Vv⟩:=b9 I.length;rw[<-Vv]at D2 R' B4;have hmn2:mn<=200000:=by have:=B4.o;omega
      have c8:=K4.o.c0;have CV:-9223372036854775807<=p:=by have:=Un.o k c;rw[wI.o]at this;exact this.1
      have Dk:p<=9223372036854775807:=by have:=Un.o k c;rw[wI.o]at this;exact this.2
      have LV:=ae (fun(wz:World) (z1:j6) (z2 z3:Nat) (z4:j6) (z5 z6:Nat) (h1:Rats wz z1 z2 z3 (T.row k)) (h2:Rats wz z4 z5 z6 I) (h3:z2<=1048576)=>kg (k1:=-p) (k2:=q) h1 h2 h3);obtain⟨sv,Es⟩:=b9 (xP (T.row k) (-p,q) I);have CJ:=ae (show xy T r c I (k+1)=sv.map fun x=>M.set k x by rw[Es,rD EC.o Rd.o,wI.o];rfl);simp only[<-Es]at LV;clear Es hvm Xq Vv;go_upto_region 17 with fail;have k7:Ext wc wc.drew:=Ext.drew wc;have vt:=k7;have k8:=ae (fun(w':World) (h:Ext wc w')=>(⟨h.j9 AL,h.j9 xG,h.j9 c8,h.j9 D2,h⟩:w'.cell? ⟨yb,vB+c*2,none⟩=some (.int .i64 p)/\w'.cell? ⟨yb,vB+c*2+1,none⟩=some (.int .i64 q)/\w'.cell? ⟨w2.heap.size,0,none⟩=some (.slice (some ⟨G,0,none⟩) nb ca)/\w'.cell? ⟨G,r,none⟩=some (.slice (some ⟨mg,0,none⟩) mn Sq)/\Ext wc w'))
      go_region_held3 (fun w'=>w'.cell? ⟨yb,vB+c*2,none⟩=some (.int .i64 p)/\w'.cell? ⟨yb,vB+c*2+1,none⟩=some (.int .i64 q)/\w'.cell? ⟨w2.heap.size,0,none⟩=some (.slice (some ⟨G,0,none⟩) nb ca)/\w'.cell? ⟨G,r,none⟩=some (.slice (some ⟨mg,0,none⟩) mn Sq)/\Ext wc w')
       (with_reducible exact k8.o _ k7)
       (first
         | (go_at_call 74
            (with_reducible refine(dS p q _ CV Dk).mono ?_)
            rintro e w3 ⟨rfl,r9⟩;have k7:Ext wc w3:=k7.trans r9
            have Cr:=k7.size)
         | (go_at_call 251
            (with_reducible refine(LV.o _ _ _ _ _ _ _ (Q3.o.ext (by first|with_reducible exact k7|with_reducible exact vt|with_reducible exact k7.trans (Ext.alloc _ _))) (R'.o.ext (by first|with_reducible exact k7|with_reducible exact vt|with_reducible exact k7.trans (Ext.alloc _ _))) e7).mono ?_)
            rintro e w4 ⟨⟨v4,rfl,z8⟩,uX⟩;have Xb:=k7.size;obtain⟨a4,n4,c4,rfl,EZ⟩:=z8.var;have k7:Ext wc w4:=k7.trans uX
            have DI:=k7.size)
         | fail)
      clear k8 vt;have xO:=ae (vk.o.trans k7);have LU:=ae (K4.o.ext k7);have wV:=ae (z8.mono Xb);have Z1:=ae k7;clear k7 z8 AL xG c8 D2;cases sv with
      | none =>
        have HN:=ae (show bo T (r:Int) (c:Int)=none by rw[Ld.o,nQ (k:=k+1) (by rw[CJ.o];rfl) wm];rfl);have Z:=(X1.o.trans xO.o);have p0:=al (Z.blk uW.o);have p1:=au (Z.blk uW.o);have p2:=av (Z.blk uW.o);have XF:=ae Z;clear Z;go_wp2_with fail;refine(zA.o _ XF.o).mono ?_;rintro e w8 ⟨⟨Vn,Vm,Me,rfl,Ap⟩,hx⟩;have X8:=ae (XF.o.trans hx);have FD:=ae Ap;obtain⟨a7,n7,c7,rfl,DP⟩:=Ap.a.var;obtain⟨a8,n8,c8,rfl,Eg⟩:=Ap.b.var;have r0:=al (X8.o.blk wL.o);have r1:=au (X8.o.blk wL.o);have r2:=av (X8.o.blk wL.o);have rf:=cO (X8.o.blk wL.o);have hsz:=XF.o.size;have Gx:=zx.o;clear hx Ap p0 p1 p2;go_wp2_with fail;refine bodyPost_ret (v:=.tuple #[.agg #[.slice a7 n7 c7,.slice a8 n8 c8,.int .i64 (m:Int)],.bool false]) (by simp[results,Tryz.results235,go_sem,r0,r1,r2,rf]) rfl ⟨?_,(uV.o.trans X8.o).zl (Nat.le_succ _) _ _ _⟩;refine⟨.slice a7 n7 c7,.slice a8 n8 c8,Me,?_,?_⟩
        ·unfold dk;rw[HN.o,Option.getD_none,B6.o];rfl
        ·unfold dk;rw[HN.o,Option.getD_none];exact(FD.o.wW fun k hk=>cz _ _ _ _ _ _ e7).mono e7
      | some nr =>
        have c8:=LU.o.c0;obtain⟨G',zi,CB,OP⟩:=LU.o.m.own.cell wm;simp only[Option.some.injEq,Addr.mk.injEq,and_true]at zi;subst zi;have Yg:w4.cell? ⟨G,k,none⟩=some (Q[k]?.getD undef):=by
         rw[OP k wm];have:k<Q.length:=by rw[LU.o.m.yy];exact wm
         simp[this]
        obtain⟨G',zi,_,_,DN⟩:=LU.o.m.outer e7;simp only[Option.some.injEq,Addr.mk.injEq,and_true]at zi;subst zi;have LS:=ae (K4.o.put Z1.o (j1 vk.o.size) wV.o wm);have AH:=ae (xO.o.setCell (p:=⟨G,k,none⟩) CB (.slice a4 n4 c4));have ZD:=ae (show xy T r c I (k+1)=some (M.set k nr)by rw[CJ.o];rfl);clear OP;go_wp2_with fail
        go_roundg (g2-1)
        case measure=>have:=Gp.o;omega
        case rel=>exact⟨k+1,_,_,ae (j1 Gp.o),by go_num,ZD,LS,AH⟩
     ·have AI:=ae (nU EC.o (of_decide_eq_true hsk));clear hsk;go_wp2_with fail
      go_roundg (g2-1)
      case measure=>have:=Gp.o;omega
      case rel=>exact⟨k+1,Q,M,ae (j1 Gp.o),by go_num,AI,K4,vk⟩
    ·have vZ:nb=k:=by have:=Gp.o;omega
     subst vZ;have HN:=ae (show bo T (r:Int) (c:Int)=some ⟨M,basis.set r (c:Int),(m:Int)⟩by rw[Ld.o,EC.o];rfl);have Y6:=au zO.o.box;obtain⟨B',off',Ky,Hh⟩:=zO.o.b.ints.at O;simp only[Option.some.injEq,Addr.mk.injEq,and_true]at Ky;obtain⟨rfl,rfl⟩:=Ky;obtain⟨B',Ky,YL,Qm,_⟩:=zO.o.b.block O;simp only[Option.some.injEq,Addr.mk.injEq,and_true]at Ky;subst Ky;rw[Nat.zero_add]at Hh;have Gg:=ae (zO.o.Sp r (c:Int));have Ez:=ae (wF.o.setCell (p:=⟨B,r,none⟩) YL (.int .i64 (c:Int)));go_upto_region 23 with fail;obtain⟨W9,Dp⟩:=b9 (J.setCell ⟨B,r,none⟩ (.int .i64 (c:Int)));rw[<-Dp]at Gg Ez⊢;clear Dp Y6 Hh Qm;have r0:=al ((X1.o.trans Ez.o).blk wL.o);have r1:=au ((X1.o.trans Ez.o).blk wL.o);have r2:=av ((X1.o.trans Ez.o).blk wL.o);have rf:=cO ((X1.o.trans Ez.o).blk wL.o);have t0:=al Gg.o.box;have t1:=au Gg.o.box;have t2:=av Gg.o.box;go_wp2_with fail;refine bodyPost_ret (v:=.tuple #[.agg #[.slice (some ⟨G,0,none⟩) nb ca,.slice (some ⟨B,0,none⟩) nb cb,.int .i64 (m:Int)],.bool true]) (by simp[results,Tryz.results235,go_sem,r0,r1,r2,rf]) rfl ⟨?_,((uV.o.trans X1.o).trans Ez.o).zl (Nat.le_succ _) _ _ _⟩;refine⟨.slice (some ⟨G,0,none⟩) nb ca,.slice (some ⟨B,0,none⟩) nb cb,Q,?_,?_⟩
     ·unfold dk;rw[HN.o,Option.getD_some];rfl
     ·unfold dk;rw[HN.o,Option.getD_some];exact(Gg.o.own.wW fun k hk=>cz _ _ _ _ _ _ e7).mono e7
theorem mz(h:Ds w ra rn rc ba bn bc t)(G:rn<=100000)(Dn:bn<=100000)(CS:∀i,i<rn->(t.row i).length<=1048576)(E:∀i j,-9223372036854775807<=(t.at i j).1/\(t.at i j).1<=9223372036854775807)(row ve:Int):
 Calls Tryz.prog 235 #[CR ra rn rc ba bn bc t.q8,.int .i64 row,.int .i64 ve] w fun e w'=>Ho w' w.heap.size e (dk t row ve) (bo t row ve).isSome/\Ext w w':=by
 cases hp:dT t row ve
 ·have e:=up hp;unfold dk;rw[e];exact lH h G Dn CS row ve hp
 ·exact lI h G Dn E row ve hp
end
structure Mod(S:Nat)(w w':World):Prop where
 os:w'.os=w.os
 tape:w'.tape=w.tape
 output:w'.output=w.output
 size:w.heap.size<=w'.heap.size
 block:∀k,k<w.heap.size->k≠S->w'.heap[k]?=w.heap[k]?
theorem Mod.refl(S:Nat)(w:World):Mod S w w:=⟨rfl,rfl,rfl,Nat.le_refl _,fun _ _ _=>rfl⟩
theorem Mod.of(h:Ext w w'):Mod S w w':=⟨h.os,h.tape,h.output,h.size,fun k hk _=>h.block k hk⟩
theorem Mod.trans{a b c:World}(h:Mod S a b)(k:Mod S b c):Mod S a c :=
 ⟨k.os.trans h.os,k.tape.trans h.tape,k.output.trans h.output,Nat.le_trans h.size k.size,fun i hi hn=>(k.block i (Nat.lt_of_lt_of_le hi h.size) hn).trans (h.block i hi hn)⟩
theorem Mod.set(S:Nat)(w:World)(k:Nat)(v:Value):Mod S w (w.setCell ⟨S,k,none⟩ v):=by
 have h:=(Below.refl S w).setCell (p:=⟨S,k,none⟩) (Nat.le_refl S) v;exact⟨h.os,h.tape,h.output,h.size,fun i _ hn=>heap_setCell_other _ _ _ _ hn⟩
theorem Mod.ext{w0:World}(h:Mod S w w')(hx:Ext w0 w)(hs:w0.heap.size<=S):Ext w0 w' :=
 ⟨h.os.trans hx.os,h.tape.trans hx.tape,h.output.trans hx.output,Nat.le_trans hx.size h.size,fun k hk=>(h.block k (Nat.lt_of_lt_of_le hk hx.size) e7).trans (hx.block k hk)⟩
structure dj(w:World)(S:Nat)(ra:j6)(rn rc:Nat)(ba:j6)(bn bc:Nat)(vs:List Value)(t:Tb)(n:Nat)(f:Bool):Prop where
 box:w.heap[S]?=some (.cells #[.slice ra rn rc,.slice ba bn bc,.int .i64 t.q8,.int .i64 (n:Int),.bool f] 182 (0,0))
 tb:wS w 0 (.slice ra rn rc) (.slice ba bn bc) vs t
theorem wS.IZ{base k:Nat}{G E:Value}{vs:List Value}{c:Array Value}{z:Nat×Nat}{v:Value}(h:wS w base G E vs t)(hb:w.heap[S]?=some (.cells c 182 z)):wS (w.setCell ⟨S,k,none⟩ v) base G E vs t :=
 ⟨dN h.a hb (by decide),⟨h.rows.len,fun i hi=>dN (h.rows.row i hi) hb (by decide),h.rows.apart⟩,dN h.b hb (by decide)⟩
section
variable{w:World}{S:Nat}{ra:j6}{rn rc:Nat}{ba:j6}{bn bc:Nat}{vs:List Value}{t:Tb}{n:Nat}{f:Bool}
theorem dj.ext{w':World}(h:dj w S ra rn rc ba bn bc vs t n f)(hx:Ext w w'):dj w' S ra rn rc ba bn bc vs t n f:=⟨(hx.block _ (lt_of_block h.box)).trans h.box,h.tb.ext hx⟩
theorem dj.cells(h:dj w S ra rn rc ba bn bc vs t n f):w.cell? ⟨S,0,none⟩=some (.slice ra rn rc)/\w.cell? ⟨S,1,none⟩=some (.slice ba bn bc)/\w.cell? ⟨S,2,none⟩=some (.int .i64 t.q8)/\w.cell? ⟨S,3,none⟩=some (.int .i64 (n:Int))/\w.cell? ⟨S,4,none⟩=some (.bool f)/\∀k,w.frozen? ⟨S,k,none⟩=false:=by
 have hb:=h.box;refine⟨?_,?_,?_,?_,?_,fun k=>frozen_of_row w S k _ _ hb⟩<;>rw[cell_of_row w S _ _ _ _ hb]<;>rfl
theorem dj.fail(h:dj w S ra rn rc ba bn bc vs t n f):dj (w.setCell ⟨S,4,none⟩ (.bool true)) S ra rn rc ba bn bc vs t n true :=
 ⟨heap_setCell_same w S 4 _ _ (.bool true) h.box,h.tb.IZ h.box⟩
theorem dj.step(h:dj w S ra rn rc ba bn bc vs t n f){Q:j6}{U E:Nat}{I:j6}{O G:Nat}{J:List Value}{K:Tb}(ho:wS w 0 (.slice Q U E) (.slice I O G) J K):
 dj ((((w.setCell ⟨S,0,none⟩ (.slice Q U E)).setCell ⟨S,1,none⟩ (.slice I O G)).setCell ⟨S,2,none⟩ (.int .i64 K.q8)).setCell ⟨S,3,none⟩ (.int .i64 ((n:Int)+1))) S Q U E I O G J K (n+1) f:=by
 have b1:=heap_setCell_same w S 0 _ _ (.slice Q U E) h.box;have Z:=heap_setCell_same _ S 1 _ _ (.slice I O G) b1;have W:=heap_setCell_same _ S 2 _ _ (.int .i64 K.q8) Z;have b4:=heap_setCell_same _ S 3 _ _ (.int .i64 ((n:Int)+1)) W;refine⟨?_,(((ho.IZ h.box).IZ b1).IZ Z).IZ W⟩;rw[b4];have:((n+1:Nat):Int)=(n:Int)+1:=by simp
 rw[this];rfl
end
theorem l9.mod{b:Nat}{v:Value}{l:j4}(h:l9 w b v l)(hm:Mod S w w'){c:Array Value}{z:Nat×Nat}(hb:w.heap[S]?=some (.cells c 182 z)):l9 w' b v l :=
 h.keep fun k hk=>hm.block k (h.lt k hk).2 fun e=>(an h hb (by decide)) (by rw[hk,e])
def Left(S:Nat)(w w':World)(o:Option (Tb×Nat)):Prop :=
 Mod S w w'/\∃ra rn rc ba bn bc vs,match o with
  | some (t,n)=>dj w' S ra rn rc ba bn bc vs t n false
  | none=>∃t n,dj w' S ra rn rc ba bn bc vs t n true
def yG(t:Tb)(n:Nat)(row ve:Int):Option (Tb×Nat):=if n=1000 then none else(bo t row ve).map fun t'=>(t',n+1)
theorem wo.bounds(h:wo n m T0 t):(∀i,i<m->(t.row i).length=n+m+1)/\∀i j,-9223372036854775807<=(t.at i j).1/\(t.at i j).1<=9223372036854775807:=by
 refine⟨fun i hi=>(h.row i hi).1,fun i j=>?_⟩;by_cases hi:i<m
 ·by_cases E:j<n+m+1
  ·have:=aL ((h.row i hi).2 j E);unfold Tb.at
   omega
  ·unfold Tb.at
   rw[List.getElem?_eq_none (by rw[(h.row i hi).1];omega)];simp
 ·unfold Tb.at Tb.row;rw[List.getElem?_eq_none (l:=t.rows) (by rw[h.len];omega)];simp
section
variable{w:World}{S:Nat}{ra:j6}{rn rc:Nat}{ba:j6}{bn bc:Nat}{vs:List Value}{t:Tb}{n:Nat}
theorem rt(h:dj w S ra rn rc ba bn bc vs t n false){N m:Nat}{T0:Nat->Nat->Rat}(hT:wo N m T0 t)(hN:N<=1000)(hm:m<=1000)(hn:n<=1000)(row ve:Int):
 Calls Tryz.prog 194 #[.pointer (some ⟨S,0,none⟩),.int .i64 row,.int .i64 ve] w fun e w'=>e=.returned (.tuple #[])/\Left S w w' (yG t n row ve):=by
 have hlt:=lt_of_block h.box;obtain⟨c0,c1,c2,c3,c4,cf⟩:=h.cells;have H:=ae h;by_cases F1:n=1000
 ·subst F1;have HP:=ae (show yG t 1000 row ve=none by unfold yG;rw[if_pos rfl]);clear h;go_enter Tryz.func194,Tryz.ntmps194
  go_wp2_with fail;refine bodyPost_ret (results_none rfl _ _ _) rfl ⟨rfl,Mod.set _ _ _ _,?_⟩;rw[HP.o];exact⟨_,_,_,_,_,_,_,_,_,H.o.fail⟩
 ·have LH:((n:Int) == 1000)=false:=by simp;omega
  have zv:n<1000:=by omega
  have HB:=ae hT.bounds;have uW:=ae h.tb.zB;have zu:rn=m:=by rw[<-h.tb.zB.rows.hlen,hT.len]
  have Dn:bn=m:=by rw[<-h.tb.zB.basis.hlen,hT.zM]
  have B1:=ae (mz h.tb.zB e7 e7 (fun i hi=>by rw[hT.bounds.1 i e7];omega) hT.bounds.2 row ve);have HP:=ae (show yG t n row ve=(bo t row ve).map fun t'=>(t',n+1)by unfold yG;rw[if_neg F1]);clear h hT F1 zu Dn;unfold Ho dk at B1;cases hp:bo t row ve with
  | none =>
    rw[hp]at B1 HP;go_enter Tryz.func194,Tryz.ntmps194
    go_wp2_with fail;refine B1.o.mono ?_;simp only[Option.getD_none,Option.isSome_none];rintro e w1 ⟨⟨va,vb,J,rfl,I⟩,hx⟩;obtain⟨W,O,Q,rfl,DP⟩:=I.a.var;obtain⟨U,K,c8,rfl,Eg⟩:=I.b.var;obtain⟨Z,G⟩:=b9 (w1.alloc (.cells #[.slice W O Q,.slice U K c8,.int .i64 t.q8] 116));have X1:=ae (show Ext w Z by rw[G];exact hx.trans (Ext.alloc _ _));have HO:=ae (show wS Z 0 (.slice W O Q) (.slice U K c8) J t by rw[G];exact(I.ext (Ext.alloc _ _)).mono (Nat.zero_le _));have E:=ae (show Z.heap[w1.heap.size]?=some (.cells #[.slice W O Q,.slice U K c8,.int .i64 t.q8] 116 (0,0))by rw[G];exact aj _ _ _ rfl);have HS:=ae (H.o.ext X1.o);go_upto_region 3 with fail;rw[<-G];clear G I hx c0 c1 c2 c3 c4 cf;obtain⟨c0,c1,c2,c3,c4,cf⟩:=HS.o.cells;have b0:=al E.o;have b1:=au E.o;have b2:=av E.o;have wm:=lt_of_block E.o;have hne:w1.heap.size≠S:=fun e=>iv E.o HS.o.box (by decide) e
    go_wp2_with fail;refine bodyPost_ret (results_none rfl _ _ _) rfl ⟨rfl,(Mod.of X1.o).trans (Mod.set _ _ _ _),?_⟩;rw[HP.o];exact⟨_,_,_,_,_,_,_,_,_,HS.o.fail⟩
  | some t' =>
    rw[hp]at B1 HP;go_enter Tryz.func194,Tryz.ntmps194
    go_wp2_with fail;refine B1.o.mono ?_;simp only[Option.getD_some,Option.isSome_some];rintro e w1 ⟨⟨va,vb,J,rfl,I⟩,hx⟩;obtain⟨W,O,Q,rfl,DP⟩:=I.a.var;obtain⟨U,K,c8,rfl,Eg⟩:=I.b.var;obtain⟨Z,G⟩:=b9 (w1.alloc (.cells #[.slice W O Q,.slice U K c8,.int .i64 t'.q8] 116));have X1:=ae (show Ext w Z by rw[G];exact hx.trans (Ext.alloc _ _));have HO:=ae (show wS Z 0 (.slice W O Q) (.slice U K c8) J t' by rw[G];exact(I.ext (Ext.alloc _ _)).mono (Nat.zero_le _));have E:=ae (show Z.heap[w1.heap.size]?=some (.cells #[.slice W O Q,.slice U K c8,.int .i64 t'.q8] 116 (0,0))by rw[G];exact aj _ _ _ rfl);have HS:=ae (H.o.ext X1.o);go_upto_region 3 with fail;rw[<-G];clear G I hx c0 c1 c2 c3 c4 cf;obtain⟨c0,c1,c2,c3,c4,cf⟩:=HS.o.cells;have b0:=al E.o;have b1:=au E.o;have b2:=av E.o;have wm:=lt_of_block E.o;have hne:w1.heap.size≠S:=fun e=>iv E.o HS.o.box (by decide) e
    go_wp2_with fail;refine bodyPost_end (results_none rfl _ _ _) rfl ⟨rfl,(Mod.of X1.o).trans ((((Mod.set _ _ _ _).trans (Mod.set _ _ _ _)).trans (Mod.set _ _ _ _)).trans (Mod.set _ _ _ _)),?_⟩;rw[HP.o];exact⟨_,_,_,_,_,_,_,HS.o.step HO.o⟩
end
theorem lR(f:Nat)(h:ch t cost=none):aO cost f t=none:=by unfold aO;rw[h]
theorem kp(f:Nat)(h:ch t cost=some cs)(he:aZ cs t.q8<0):aO cost f t=some ⟨t,f,cs,-1⟩:=by unfold aO;rw[h];simp only[he,if_true]
theorem kq(f:Nat)(h:ch t cost=some cs)(he:¬aZ cs t.q8<0)(hl:cu t (aZ cs t.q8)<0):aO cost f t=some ⟨t,f,cs,aZ cs t.q8⟩:=by
 unfold aO;rw[h];simp only[he,hl,if_true,if_false]
theorem kr(hn:n<=1000)(h:ch t cost=some cs)(he:¬aZ cs t.q8<0)(hl:¬cu t (aZ cs t.q8)<0):
 aO cost (1000-n) t=(yG t n (cu t (aZ cs t.q8)) (aZ cs t.q8)).bind fun s=>aO cost (1000-s.2) s.1:=by
 unfold yG;by_cases E:n=1000
 ·subst E;unfold aO;rw[h];simp only[he,hl,if_false,if_true];rfl
 ·rw[if_neg E];obtain⟨f,hf⟩:∃f,1000-n=f+1:=⟨999-n,by omega⟩;rw[hf];have e:1000-(n+1)=f:=by omega
  conv=>lhs;unfold aO
  rw[h];simp only[he,hl,if_false];cases bo t (cu t (aZ cs t.q8)) (aZ cs t.q8)with
  | none=>rfl
  | some t'=>simp only[Option.map_some,Option.bind_some,e]
def Zh(S:Nat)(w:World)(e:Ending)(w':World)(o:Option Ph):Prop :=
 Mod S w w'/\∃ra rn rc ba bn bc vs,match o with
  | some p=>∃v,e=.returned (.tuple #[v,.int .i64 p.ve])/\l9 w' w.heap.size v p.costs/\dj w' S ra rn rc ba bn bc vs p.t (1000-p.left) false
  | none=>∃v ve t n,e=.returned (.tuple #[v,.int .i64 ve])/\dj w' S ra rn rc ba bn bc vs t n true
structure Head(w wr:World)(S:Nat)(N m:Nat)(T0:Nat->Nat->Rat)(cost:j4)(o:Option Ph)(gk:Nat)(nn:Nat)(f:Bool)(tt:Tb)(ra:j6)(rn rc:Nat)(ba:j6)(bn bc:Nat)(vs:List Value):Prop where
 meas:gk=if f=true then 0 else 2*(1000-nn)+1
 mod:Mod S w wr
 st:dj wr S ra rn rc ba bn bc vs tt nn f
 go:f=false->wo N m T0 tt/\nn<=1000/\aO cost (1000-nn) tt=o
 no:f=true->o=none
section
variable{w:World}{S:Nat}{ra:j6}{rn rc:Nat}{ba:j6}{bn bc:Nat}{vs:List Value}{t:Tb}{n:Nat}
theorem Ol(h:dj w S ra rn rc ba bn bc vs t n false){N m:Nat}{T0:Nat->Nat->Rat}(I:wo N m T0 t)(hN:N<=1000)(hm:m<=1000)(hn:n<=1000){ka:j6}{kn kc b0:Nat}{cost:j4}(hc:l9 w b0 (.slice ka kn kc) cost):
 Calls Tryz.prog 191 #[.pointer (some ⟨S,0,none⟩),.slice ka kn kc] w fun e w'=>Zh S w e w' (aO cost (1000-n) t):=by
 obtain⟨o,ho⟩:=b9 (aO cost (1000-n) t);rw[<-ho];have H0:=ae (show Head w w S N m T0 cost o (2*(1000-n)+1) n false t ra rn rc ba bn bc vs from⟨by simp,Mod.refl _ _,h,fun _=>⟨I,hn,ho.symm⟩,fun e=>by cases e⟩);have HC:=ae hc;have wE:=ae h.box;have hlt:=lt_of_block h.box;clear h I ho hc;go_enter Tryz.func191,Tryz.ntmps191
 go_wp2_with fail
 go_loopg [8] (2*(1000-n)+1) (fun gk s8 wr=>∃(E:Nat) (f:Bool) (G:Tb) (ra:j6) (rn rc:Nat) (ba:j6) (bn bc:Nat) (vs:List Value),b7 (Head w wr S N m T0 cost o gk E f G ra rn rc ba bn bc vs))
 case atStart=>exact⟨n,false,t,_,_,_,_,_,_,_,H0⟩
 case round =>
  obtain⟨g1,o6⟩:=b9 gk;subst o6;obtain⟨o8,o4⟩:=b9 wr;subst o4;obtain⟨E,f,G,ra,rn,rc,ba,bn,bc,vs,HH⟩:=hrel;clear H0;obtain⟨c0,c1,c2,c3,c4,J⟩:=HH.o.st.cells;have XM:=lt_of_block HH.o.st.box;have BQ:=HH.o.mod.size;cases f
  ·obtain⟨I,zv,U⟩:=HH.o.go rfl;have HT:=ae I;have NS:=ae U;have y7:=I.q8;have W:=ae (tQ HH.o.st.tb.zB (by rw[<-HH.o.st.tb.zB.rows.hlen,I.len];omega) ((HC.o.mod HH.o.mod wE.o).uZ));rw[y7]at c2 W;have AV:=ae y7;clear I U y7;cases hcs:ch G cost with
   | none =>
     have HO:=ae (show o=none by rw[<-NS.o];exact lR _ hcs);rw[hcs]at W;go_wp2_with fail;refine W.o.mono ?_;simp only[Option.getD_none,Option.isSome_none];rintro e w2 ⟨⟨v2,rfl,Z⟩,hx⟩;have HS:=ae (HH.o.st.ext hx);have HM:=ae (HH.o.mod.trans (Mod.of hx));clear Z hx c0 c1 c2 c3 c4 J hcs;obtain⟨c0,c1,c2,c3,c4,J⟩:=HS.o.cells;go_wp2_with fail
     go_ret2
     refine⟨HM.o.trans (Mod.set _ _ _ _),?_⟩;rw[HO.o];exact⟨_,_,_,_,_,_,_,_,_,_,_,rfl,HS.o.fail⟩
   | some cs =>
     rw[hcs]at W;have EH:=ae hcs;go_wp2_with fail;refine W.o.mono ?_;simp only[Option.getD_some,Option.isSome_some];rintro e w2 ⟨⟨v2,rfl,Z⟩,hx⟩;obtain⟨a2,n2,p2,rfl,ED⟩:=Z.var;have HS:=ae (HH.o.st.ext hx);have HM:=ae (HH.o.mod.trans (Mod.of hx));have wG:=ae (show l9 w2 w.heap.size (.slice a2 n2 p2) cs from l9.mono Z BQ);clear Z hx c0 c1 c2 c3 c4 J hcs;obtain⟨c0,c1,c2,c3,c4,J⟩:=HS.o.cells;rw[AV.o]at c2;obtain⟨ve,A9⟩:=b9 (aZ cs (N:Int));have zA:=ae A9;clear A9;go_upto_region 5 with fail;have k7:Ext w2 w2.drew:=Ext.drew w2;have vt:=k7;have k8:=ae (fun(w':World) (h:Ext w2 w')=>(⟨h.j9 c0,h.j9 c1,h.j9 c2,h⟩:w'.cell? ⟨S,0,none⟩=some (.slice ra rn rc)/\w'.cell? ⟨S,1,none⟩=some (.slice ba bn bc)/\w'.cell? ⟨S,2,none⟩=some (.int .i64 (N:Int))/\Ext w2 w'))
     go_region_held3 (fun w'=>w'.cell? ⟨S,0,none⟩=some (.slice ra rn rc)/\w'.cell? ⟨S,1,none⟩=some (.slice ba bn bc)/\w'.cell? ⟨S,2,none⟩=some (.int .i64 (N:Int))/\Ext w2 w')
      (with_reducible exact k8.o _ k7)
      (first
        | (go_at_call 232
           (with_reducible refine(kD (ra:=ra) (rn:=rn) (rc:=rc) (ba:=ba) (bn:=bn) (bc:=bc) (x:=(N:Int)) (wG.o.uZ.ext (by first|with_reducible exact k7|with_reducible exact vt|with_reducible exact k7.trans (Ext.alloc _ _))) N e7).mono ?_)
           rw[<-zA.o];rintro e w3 ⟨rfl,r9⟩;have k7:Ext w2 w3:=k7.trans r9
           have Cr:=k7.size)
        | fail)
     clear k8 vt;have O:=ae (HS.o.ext k7);have Cc:=ae (HM.o.trans (Mod.of k7));have vi:=ae (wG.o.ext k7);clear k7 c0 c1 c2 c3 c4 J;have K:=ae (show aZ cs G.q8=ve by rw[AV.o,zA.o]);by_cases wK:ve<0
     ·have HO:=ae (show o=some ⟨G,1000-E,cs,-1⟩by rw[<-NS.o];exact kp _ EH.o (by rw[K.o];exact wK));go_wp2_with fail
      go_ret2
      refine⟨Cc.o,?_⟩;rw[HO.o];exact⟨_,_,_,_,_,_,_,_,rfl,vi.o,by rw[show 1000-(1000-E)=E by omega];exact O.o⟩
     ·obtain⟨c0,c1,c2,c3,c4,J⟩:=O.o.cells;rw[AV.o]at c2;have Gr:=ae wK;have EF:=ae (oX O.o.tb.zB (by rw[<-O.o.tb.zB.rows.hlen,HT.o.len];omega) ve);rw[AV.o]at EF;obtain⟨row,o7⟩:=b9 (cu G ve);have zD:=ae (show cu G (aZ cs G.q8)=row by rw[K.o,o7]);rw[<-o7]at EF;clear o7;go_wp2_with fail;refine EF.o.mono ?_;rintro e w4 ⟨rfl,hx⟩;have LW:=ae (O.o.ext hx);have BL:=ae (Cc.o.trans (Mod.of hx));have wV:=ae (vi.o.ext hx);clear hx c0 c1 c2 c3 c4 J;by_cases xA:row<0
      ·have HO:=ae (show o=some ⟨G,1000-E,cs,ve⟩by
        rw[<-NS.o,kq _ EH.o (by rw[K.o];have:=Gr.o;omega) (by rw[zD.o];exact xA),K.o])
       go_wp2_with fail
       go_ret2
       refine⟨BL.o,?_⟩;rw[HO.o];exact⟨_,_,_,_,_,_,_,_,rfl,wV.o,by rw[show 1000-(1000-E)=E by omega];exact LW.o⟩
      ·have Dy:=ae (show o=(yG G E row ve).bind fun s=>aO cost (1000-s.2) s.1 by
        rw[<-NS.o,kr zv EH.o (by rw[K.o];have:=Gr.o;omega) (by rw[zD.o];omega),zD.o,K.o])
       have B1:=ae (rt LW.o HT.o hN hm zv row ve);have V3:=ae (show g1=2*(1000-E)+1 from HH.o.meas);go_wp2_with fail;refine B1.o.mono ?_;rintro e w5 ⟨rfl,BI,Of,Ps,Oe,OX,QJ,OW,Mf,Q⟩;cases AG:yG G E row ve with
       | none =>
         rw[AG]at Q;obtain⟨t5,n5,Bm⟩:=Q;have HO:=ae (show o=none by rw[Dy.o,AG];rfl);have U9:=ae (show Head w w5 S N m T0 cost o 0 n5 true t5 Of Ps Oe OX QJ OW Mf from⟨rfl,BL.o.trans BI,Bm,fun e=>(by cases e),fun _=>HO.o⟩);clear Bm AG BI;go_wp2_with fail
         go_roundg 0
         case measure=>have:=V3.o;omega
         case rel=>exact⟨n5,true,t5,_,_,_,_,_,_,_,U9⟩
       | some st =>
         obtain⟨t5,n5⟩:=st;rw[AG]at Q;have OB:n5=E+1/\E<1000/\bo G row ve=some t5:=by
          unfold yG at AG
          split at AG
          ·cases AG
          ·rw[Option.map_eq_some_iff]at AG;obtain⟨t6,h6,h7⟩:=AG;simp only[Prod.mk.injEq]at h7;obtain⟨rfl,rfl⟩:=h7;exact⟨rfl,by omega,h6⟩
         obtain⟨rfl,XJ,Hb⟩:=OB;have HO:=ae (show aO cost (1000-(E+1)) t5=o by rw[Dy.o,AG];rfl);have U9:=ae (show Head w w5 S N m T0 cost o (2*(1000-(E+1))+1) (E+1) false t5 Of Ps Oe OX QJ OW Mf from⟨rfl,BL.o.trans BI,Q,fun _=>⟨eQ HT.o Hb,by omega,HO.o⟩,fun e=>(by cases e)⟩);clear Q AG BI Hb;go_wp2_with fail
         go_roundg (2*(1000-(E+1))+1)
         case measure=>have:=V3.o;omega
         case rel=>exact⟨E+1,false,t5,_,_,_,_,_,_,_,U9⟩
  ·have HO:=ae (HH.o.no rfl);go_wp2_with fail
   go_ret2
   refine⟨HH.o.mod,?_⟩;rw[HO.o];exact⟨_,_,_,_,_,_,_,_,_,_,_,rfl,HH.o.st⟩
end
theorem nl{a:j6}{cap:Nat}{front:j4}(h:Rats w a n cap front)(rest:Int)(m:Nat)(hn:n<=100000)(hm:m<=100000):
 Calls Tryz.prog 192 #[.slice a n cap,.int .i64 rest,.int .i64 (m:Int)] w fun e w'=>(∃v,e=.returned v/\l9 w' w.heap.size v (front++List.replicate m (rest,1)))/\Ext w w':=by
 have HL:=ae h.hlen;have xB:=h.l8;have zC:=h.o0;have HI:=ae (h.ext (Ext.alloc w (.cells #[] 62)));have HO:=ae (l9.made w w.heap.size (Nat.le_refl _));clear h;go_enter Tryz.func192,Tryz.ntmps192
 go_wp2_with (first
  | (at_builtin;refine aI rfl _ _ rfl w.heap.size (.slice (some ⟨w.heap.size,0,none⟩) 0 0) [] rfl HO.o a n cap front rfl HI.o (by simp;omega) e8 ?_;intro v5 w5 ho hg l7;have X5:=ae (ak (Ext.alloc w (.cells #[] 62)) hg (fun j hj=>Nat.le_of_eq (Option.some.inj (show some w.heap.size=some j from hj))));obtain⟨a5,K,J,rfl,O⟩:=ho.var;have vU:=ae ho;clear ho hg l7))
 go_loopg [7,12] m (fun gk oo ii wr=>∃(k:Nat) (a1:j6) (E p1:Nat),b7 (gk+k=m)/\ii=.int .i64 (k:Int)/\oo=.slice a1 E p1/\b7 (l9 wr w.heap.size (.slice a1 E p1) (front++List.replicate k (rest,1)))/\b7 (Ext w wr))
 case atStart=>exact⟨0,_,_,_,ae e7,rfl,rfl,ae (by have:=vU.o;simpa using this),X5⟩
 case round =>
  obtain⟨g1,U⟩:=b9 gk;subst U;obtain⟨o8,W⟩:=b9 wr;subst W;obtain⟨k,a1,E,p1,G,rfl,rfl,vw,HX⟩:=hrel;by_cases hlt:k<m
  ·have xg:=ae (show(front++List.replicate k (rest,(1:Int))).length=n+k by simp[HL.o]);go_wp2_with fail;refine(cv rest _).mono ?_;rintro e w3 ⟨rfl,hx⟩;have X3:=ae (HX.o.trans hx);have I:=ae (vw.o.ext hx);have Cs:=X3.o.size;clear hx
   go_wp2_with (first
    | (at_builtin;refine aI rfl _ _ rfl w.heap.size (.slice a1 E p1) _ rfl (I.o.ext (Ext.alloc _ _)) _ 1 _ [(rest,1)] rfl (Rats.one' _ _ _ _ _ e8) (by rw[xg.o];omega) (by simp;omega) ?_;intro v5 w5 ho hg l7;have X5:=ae (ak (X3.o.trans (Ext.alloc _ _)) hg (fun j hj=>(I.o.lt j hj).1));obtain⟨a5,K,J,rfl,O⟩:=ho.var;have vU:=ae ho;clear ho hg l7))
   go_roundg (g1-1)
   case measure=>have:=G.o;omega
   case rel=>exact⟨k+1,a5,K,J,ae (j1 G.o),by go_num,rfl,ae (by have:=vU.o;rw[List.append_assoc,<-List.replicate_succ']at this;exact this),X5⟩
  ·have Q:m=k:=by have:=G.o;omega
   subst Q;go_wp2_with fail;go_ret;exact⟨⟨_,rfl,vw.o⟩,HX.o⟩
theorem hI(t:Tb):∀k,(yd t k).length=t.q8.toNat+t.rows.length
 | 0=>by simp[yd]
 | k+1=>by simp only[yd,List.length_set];exact hI t k
theorem oZ{ra:j6}{rn rc:Nat}{ba:j6}{bn bc:Nat}(h:Ds w ra rn rc ba bn bc t)(zu:rn<=100000)(wj:yO t=true):
 Calls Tryz.prog 195 #[CR ra rn rc ba bn bc t.q8] w fun e w'=>(∃v,e=.returned v/\l9 w' w.heap.size v (xx t))/\Ext w w':=by
 have uS:=Ext.alloc w (bT ra rn rc ba bn bc t.q8);have uV:=ae uS;have H:=ae (h.ext uS);have HF:=ae (gT H.o e7);rw[wj]at HF;obtain⟨m,J,hm,CY,G9,No⟩:=ft h wj;subst CY;have xm:=h.rows.l8;have yI:=h.rows.o0;have xE:=ae h.rows.hlen;have Uu:=ae (show xx t=yd t bn by unfold xx;rw[if_pos wj,h.rows.hlen]);have FA:=ae (show yd t 0=List.replicate (m+bn) (0,1)by simp only[yd];rw[J,h.rows.hlen];rfl);have zP:=ae (fun k=>show(yd t k).length=m+bn by rw[hI,J,h.rows.hlen];simp);have xW:=ae G9;have GX:=ae No;have B6:=ae J;rw[J]at HF uS uV H;rw[J];have HO:=ae (fun(W:World)=>l9.made W W.heap.size (Nat.le_refl _));clear h uS G9 No wj J;go_enter Tryz.func195,Tryz.ntmps195
 go_wp2_with fail;refine HF.o.mono ?_;rintro e w1 ⟨rfl,hx⟩;have X1:=ae hx;have H1:=ae (H.o.ext hx);have c0:w1.cell? ⟨w.heap.size,0,none⟩=some (.slice ra bn rc):=hx.j9 e8;have c2:w1.cell? ⟨w.heap.size,2,none⟩=some (.int .i64 (m:Int)):=hx.j9 e8;have BQ:w.heap.size+1<=w1.heap.size:=by have:=hx.size;simpa using this
 have S1:w.heap.size<w1.heap.size:=BQ;have vw:=ae (HO.o w1);clear hx;go_wp2_with fail
 go_loopg [3,16] (m+bn) (fun gk oo ii wr=>∃(k:Nat) (a1:j6) (E p1:Nat),b7 (gk+k=m+bn)/\ii=.int .i64 (k:Int)/\oo=.slice a1 E p1/\b7 (l9 wr w1.heap.size (.slice a1 E p1) (List.replicate k (0,1)))/\b7 (Ext w1 wr))
 case atStart=>exact⟨0,_,_,_,ae e7,rfl,rfl,vw,ae (Ext.alloc _ _)⟩
 case round =>
  obtain⟨g1,o6⟩:=b9 gk;subst o6;obtain⟨o8,o4⟩:=b9 wr;subst o4;obtain⟨k,a1,E,p1,Z,rfl,rfl,vw,HX⟩:=hrel;clear c0 c2;by_cases hlt:k<m+bn
  ·have xg:=ae (show(List.replicate k ((0:Int),(1:Int))).length=k by simp);have M6:(k:Int)<(m:Int)+(bn:Int):=by omega
   go_wp2_with fail;refine(cv 0 _).mono ?_;rintro e w3 ⟨rfl,hx⟩;have X3:=ae (HX.o.trans hx);have vi:=ae (vw.o.ext hx);have Cs:=X3.o.size;clear hx
   go_wp2_with (first
    | (at_builtin;refine aI rfl _ _ rfl w1.heap.size (.slice a1 E p1) _ rfl (vi.o.ext (Ext.alloc _ _)) _ 1 _ [(0,1)] rfl (Rats.one' _ _ _ _ _ e8) (by rw[xg.o];omega) (by simp;omega) ?_;intro v5 w5 ho hg l7;have X5:=ae (ak (X3.o.trans (Ext.alloc _ _)) hg (fun j hj=>(vi.o.lt j hj).1));obtain⟨a5,n5,p5,rfl,zj⟩:=ho.var;have vU:=ae ho;clear ho hg l7))
   go_roundg (g1-1)
   case measure=>have:=Z.o;omega
   case rel=>exact⟨k+1,a5,n5,p5,ae (j1 Z.o),by go_num,rfl,ae (by have:=vU.o;rw[<-List.replicate_succ']at this;exact this),X5⟩
  ·have U:k=m+bn:=by have:=Z.o;omega
   have M6:¬(k:Int)<(m:Int)+(bn:Int):=by omega
   have HKM:=ae U;have wG:=ae (show l9 o8 w1.heap.size (.slice a1 E p1) (yd t 0)by rw[FA.o,<-U];exact vw.o);have c0:o8.cell? ⟨w.heap.size,0,none⟩=some (.slice ra bn rc):=(X1.o.trans HX.o).j9 e8;clear U;go_wp2_with fail
   go_loopg [26] bn (fun gk ii wr=>∃(k:Nat),b7 (gk+k=bn)/\ii=.int .i64 (k:Int)/\b7 (l9 wr w1.heap.size (.slice a1 E p1) (yd t k))/\b7 (Ext w1 wr))
   case atStart=>exact⟨0,ae e7,rfl,wG,HX⟩
   case round =>
    obtain⟨g2,wv⟩:=b9 gk;subst wv;obtain⟨I,vo⟩:=b9 wr;subst vo;obtain⟨j,HJ,rfl,O,K⟩:=hrel;clear c0;by_cases yW:j<bn
    ·obtain⟨zb,vF,ya,Q,yc,zX,xr,o7⟩:=(H1.o.ext K.o).rows.at yW;subst zX;obtain⟨u,hu⟩:=b9 (m+bn);have A5:Q=u+1:=by rw[<-o7.hlen,hu];exact xW.o j yW
     have LQ:=ae A5;have xG:=o7.l8;have Bt:=o7.o0;have RB:u<=200000:=by omega
     obtain⟨yb,vB,p,q,Bs,vK,EP,EO⟩:=o7.at (show u<Q by omega);subst Bs;have wI:=ae (show t.at j u=(p,q)from vK);obtain⟨b,hb,LL⟩:=GX.o j yW;have HB:=ae hb;obtain⟨eb,vd,AD,xj⟩:=(H1.o.ext K.o).basis.at yW;subst AD;rw[hb]at xj;have zv:E=u:=by have:=O.o.uZ.hlen;rw[zP.o]at this;omega
     subst zv;obtain⟨G,hG,CB,DN,Hl⟩:=O.o.block (k:=b) e7;subst hG;obtain⟨G',GI,VM,VL,zi,BV,DM,Cx⟩:=O.o.uZ.at (show b<E by omega);simp only[Option.some.injEq,Addr.mk.injEq,and_true]at zi;obtain⟨rfl,rfl⟩:=zi;rw[Nat.zero_add]at DM Cx;have c1:I.cell? ⟨w.heap.size,1,none⟩=some (.slice (some ⟨eb,vd,none⟩) bn bc):=(X1.o.trans K.o).j9 e8;have MM:IntKind.i64.wrap ((Q:Int)-1)=(E:Int):=by have:=LQ.o;rw[IntKind.wrap_i64];omega
     have DH:(E:Int)<(Q:Int):=by have:=LQ.o;omega
     have JS:(0:Int)<=(E:Int):=by omega
     have At:(0:Int)<=(b:Int):=by omega
     have xL:(b:Int)<(E:Int):=by omega
     have hj0:(0:Int)<=(j:Int):=by omega
     have Vy:(j:Int)<(bn:Int):=by omega
     have HU:=ae hu;clear vK o7 A5 hb BV hu;go_upto_region 11 with fail
     go_still_tail 13,e9
     have vU:=ae (show l9 ((I.drew.setCell ⟨G,b*2,none⟩ (.int .i64 p)).setCell ⟨G,b*2+1,none⟩ (.int .i64 q)) w1.heap.size (.slice (some ⟨G,0,none⟩) E p1) (yd t (j+1))by
      have h1:=(O.o.ext (Ext.drew I)).set (k:=b) (by rw[zP.o,<-HU.o];omega) p q;have h2:yd t (j+1)=(yd t j).set b (p,q):=by
       simp only[yd];rw[HB.o,Int.toNat_natCast,B6.o,Int.toNat_natCast,xE.o,<-HU.o,wI.o]
      rw[h2];exact h1)
     have AH:=ae (((K.o.trans (Ext.drew I)).setCell (p:=⟨G,b*2,none⟩) CB (.int .i64 p)).setCell (p:=⟨G,b*2+1,none⟩) CB (.int .i64 q));clear MM;go_wp2_with fail
     go_roundg (g2-1)
     case measure=>have:=HJ.o;omega
     case rel=>exact⟨j+1,ae (j1 HJ.o),by go_num,vU,AH⟩
    ·have Cw:bn=j:=by have:=HJ.o;omega
     subst Cw;go_wp2_with fail;go_ret;exact⟨⟨_,rfl,by rw[Uu.o];exact O.o.mono e7⟩,(uV.o.trans X1.o).trans K.o⟩
end Go.Proofs.YtdadoignenffgaaGreatDoor
