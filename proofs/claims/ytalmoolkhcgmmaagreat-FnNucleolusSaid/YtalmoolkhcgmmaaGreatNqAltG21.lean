import Derived.Test.YtalmoolkhcgmmaaGreatNqAltG20
import Derived.Outline
import Derived.Test.YtalmoolkhcgmmaaGreatNqAltG13
set_option linter.unusedVariables false
set_option linter.unusedSimpArgs false
namespace Go.Proofs.YtalmoolkhcgmmaaGreat
variable{S m:Nat}{w w':World}{t:Tb}{T0:Nat->Nat->Rat}{cost cs:j6}
set_option maxHeartbeats 16000000
set_option maxRecDepth 100000
open Go.RowKit
def JJ(w:World)(base:Nat)(e:Ending)(t:Tb)(ok:Bool):Prop:=∃va vb vs,e=.returned (.tuple #[.agg #[va,vb,.int .i64 t.q8],.bool ok])/\yK w base va vb vs t
section
variable{w:World}{ra:j8}{rn rc:Nat}{ba:j8}{bn bc:Nat}{t:Tb}
theorem mP(h:EZ w ra rn rc ba bn bc t)(BF:rn<=100000)(ER:bn<=100000)(Cg:∀i,i<rn->(t.row i).length<=1048576)(row wX:Int)(I:dN t row wX=false):
 Calls Tryz.prog 151 #[EB ra rn rc ba bn bc t.q8,.int .i64 row,.int .i64 wX] w fun e w'=>JJ w' w.heap.size e t false/\Ext w w':=by
 have wI:=(Ext.alloc w (cg ra rn rc ba bn bc t.q8)).trans (Ext.alloc _ (.cells #[.slice none 0 0,.slice none 0 0,.int .i64 0] 108));obtain⟨W,hW⟩:=b8 ((w.alloc (cg ra rn rc ba bn bc t.q8)).alloc (.cells #[.slice none 0 0,.slice none 0 0,.int .i64 0] 108));rw[<-hW]at wI;have wM:=ae wI;have H:=ae (h.ext wI);have HF:=ae (iz H.o b9);have Un:=ae (fun ok=>gw h ok);have B6:=ae (fun(w':World) (hx:Ext W w')=>jo (H.o.ext hx) b9 b9 Cg);have yA:=ae (show W.heap[w.heap.size+1]?=some (.cells #[.slice none 0 0,.slice none 0 0,.int .i64 0] 108 (0,0))by rw[hW];exact ak _ _ _ e7);have G:=ae (show W.heap[w.heap.size]?=some (.cells #[.slice ra rn rc,.slice ba bn bc,.int .i64 t.q8] 108 (0,0))by rw[hW,bX _ _ _ e7];exact ak _ _ _ rfl);have Bc:=ae (show W.heap.size=w.heap.size+1+1 by rw[hW];simp);have yC:=h.rows.o3;have AX:=h.rows.l9;obtain⟨rows,basis,x⟩:=t
 have DO:=ae (show(AG ⟨rows,basis,x⟩&&(wJ row 0 ((rn:Int)-1)&&wJ wX 0 (x+(rn:Int)-1)))=false by
  have:=I;unfold dN at this;simp only at this;rw[h.rows.hlen]at this;exact this)
 clear h wI Cg I
 show Calls _ _ #[EB ra rn rc ba bn bc x,.int .i64 row,.int .i64 wX] w _;cases xq:AG ⟨rows,basis,x⟩
 ·rw[xq]at HF;clear xq;go_enter Tryz.func151,Tryz.ntmps151
  go_upto_region 1 with fail;rw[<-hW];clear hW;have p0:=au G.o;have p1:=aH G.o;have p2:=aI G.o;go_wp2_with fail;refine HF.o.mono ?_;rintro e w1 ⟨rfl,hx⟩;have X1:=ae hx;clear hx p0 p1 p2;have p0:=au (X1.o.blk G.o);have p1:=aH (X1.o.blk G.o);have p2:=aI (X1.o.blk G.o);go_wp2_with fail;refine(B6.o _ X1.o).mono ?_;rintro e w2 ⟨⟨va,u,vs,rfl,ho⟩,hx⟩;have X2:=ae (X1.o.trans hx);have HO:=ae ho;obtain⟨Z,n7,R,rfl,E'⟩:=ho.a.var;obtain⟨U,n8,c8,rfl,FT⟩:=ho.b.var;have r0:=au (X2.o.blk yA.o);have r1:=aH (X2.o.blk yA.o);have K:=aI (X2.o.blk yA.o);have rf:=dh (X2.o.blk yA.o);have O:=X1.o.size;have Rb:=Bc.o;clear hx ho p0 p1 p2;go_wp2_with fail;refine bodyPost_ret (v:=.tuple #[.agg #[.slice Z n7 R,.slice U n8 c8,.int .i64 x],.bool false]) (by simp[results,Tryz.results151,go_sem,r0,r1,K,rf]) rfl ⟨⟨_,_,vs,rfl,(HO.o.yS fun k hk=>cZ _ _ _ _ _ _ b9).mono b9⟩,(wM.o.trans X2.o).A' (Nat.le_succ _) _ _ _⟩
 ·rw[xq]at HF;obtain⟨m,EC,hm,Du,_,_⟩:=Un.o xq;simp only at EC;subst EC Du;have J:=ae (show(wJ row 0 ((bn:Int)-1)&&wJ wX 0 ((m:Int)+(bn:Int)-1))=false by have:=DO.o;rw[xq]at this;simpa using this);have OJ:=ae (fun w=>aK row 0 ((bn:Int)-1) w);have Eu:=ae (fun w=>aK wX 0 ((m:Int)+(bn:Int)-1) w);clear xq;cases xR:wJ row 0 ((bn:Int)-1)
  case' true =>
   have GA:wJ wX 0 ((m:Int)+(bn:Int)-1)=false:=by have:=J.o;rw[xR]at this;simpa using this
   simp only[GA]at Eu;clear GA
  all_goals
   simp only[xR]at OJ;clear xR;go_enter Tryz.func151,Tryz.ntmps151
   go_upto_region 1 with fail;rw[<-hW];clear hW;have p0:=au G.o;have p1:=aH G.o;have p2:=aI G.o;go_wp2_with fail;refine HF.o.mono ?_;rintro e w1 ⟨rfl,hx⟩;have X1:=ae hx;clear hx p0 p1 p2;have p0:=au (X1.o.blk G.o);have p1:=aH (X1.o.blk G.o);have p2:=aI (X1.o.blk G.o);go_wp2_with fail;refine(OJ.o _).mono ?_;rintro e w1' ⟨rfl,rfl⟩;go_wp2_with fail
  all_goals
   try(
    with_reducible refine(Eu.o _).mono ?_
    rintro e w1' ⟨rfl,rfl⟩
    go_wp2_with fail)
   refine(B6.o _ X1.o).mono ?_;rintro e w2 ⟨⟨va,u,vs,rfl,ho⟩,hx⟩;have X2:=ae (X1.o.trans hx);have HO:=ae ho;obtain⟨Z,n7,R,rfl,E'⟩:=ho.a.var;obtain⟨U,n8,c8,rfl,FT⟩:=ho.b.var;have r0:=au (X2.o.blk yA.o);have r1:=aH (X2.o.blk yA.o);have K:=aI (X2.o.blk yA.o);have rf:=dh (X2.o.blk yA.o);have O:=X1.o.size;have Rb:=Bc.o;clear hx ho p0 p1 p2;go_wp2_with fail;refine bodyPost_ret (v:=.tuple #[.agg #[.slice Z n7 R,.slice U n8 c8,.int .i64 (m:Int)],.bool false]) (by simp[results,Tryz.results151,go_sem,r0,r1,K,rf]) rfl ⟨⟨_,_,vs,rfl,(HO.o.yS fun k hk=>cZ _ _ _ _ _ _ b9).mono b9⟩,(wM.o.trans X2.o).A' (Nat.le_succ _) _ _ _⟩
end
section
variable{w:World}{ra:j8}{rn rc:Nat}{ba:j8}{bn bc:Nat}{t:Tb}
theorem mQ(h:EZ w ra rn rc ba bn bc t)(BF:rn<=100000)(ER:bn<=100000)(hval:∀i j,-9223372036854775807<=(t.at i j).1/\(t.at i j).1<=9223372036854775807)(row wX:Int)(Hs:dN t row wX=true):
 Calls Tryz.prog 151 #[EB ra rn rc ba bn bc t.q8,.int .i64 row,.int .i64 wX] w fun e w'=>JJ w' w.heap.size e (dF t row wX) (bo t row wX).isSome/\Ext w w':=by
 have wI:=(Ext.alloc w (cg ra rn rc ba bn bc t.q8)).trans (Ext.alloc _ (.cells #[.slice none 0 0,.slice none 0 0,.int .i64 0] 108));obtain⟨W,hW⟩:=b8 ((w.alloc (cg ra rn rc ba bn bc t.q8)).alloc (.cells #[.slice none 0 0,.slice none 0 0,.int .i64 0] 108));rw[<-hW]at wI;have wM:=ae wI;have H:=ae (h.ext wI);have xq:AG t=true:=by unfold dN at Hs;simp only[Bool.and_eq_true]at Hs;exact Hs.1
 have HF:=ae (iz H.o b9);rw[xq]at HF;obtain⟨m,EC,hm,Du,Ju,Qc⟩:=gw h xq;subst Du;have Cg:∀i,i<bn->(t.row i).length<=1048576:=fun i hi=>by rw[Ju i hi];omega
 have B6:=ae (fun(w':World) (hx:Ext W w')=>jo (H.o.ext hx) b9 b9 Cg);have yA:=ae (show W.heap[w.heap.size+1]?=some (.cells #[.slice none 0 0,.slice none 0 0,.int .i64 0] 108 (0,0))by rw[hW];exact ak _ _ _ e7);have R:=ae (show W.heap[w.heap.size]?=some (.cells #[.slice ra bn rc,.slice ba bn bc,.int .i64 t.q8] 108 (0,0))by rw[hW,bX _ _ _ e7];exact ak _ _ _ rfl);have Bc:=ae (show W.heap.size=w.heap.size+1+1 by rw[hW];simp);have yC:=h.rows.o3;have AX:=h.rows.l9;obtain⟨rows,basis,x⟩:=t;simp only at EC;subst EC;have zy:=ae (show rows.length=bn from h.rows.hlen);have y4:=ae (show basis.length=bn from h.basis.hlen);have xR:wJ row 0 ((bn:Int)-1)=true/\wJ wX 0 ((m:Int)+(bn:Int)-1)=true:=by
  have:=Hs;unfold dN at this;simp only[Bool.and_eq_true]at this;rw[h.rows.hlen]at this;exact this.2
 obtain⟨PY,GA⟩:=xR;obtain⟨r,rfl⟩:∃r:Nat,row=r:=⟨row.toNat,by simp[wJ]at PY;omega⟩;obtain⟨c,rfl⟩:∃c:Nat,wX=c:=⟨wX.toNat,by simp[wJ]at GA;omega⟩;have O:r<bn:=by simp[wJ]at PY;omega
 obtain⟨u,hu⟩:=b8 (m+bn+1);have Vf:c<u:=by simp[wJ]at GA;omega
 have ZC:u<=200000:=by omega
 have OJ:=ae (fun w=>aK (r:Int) 0 ((bn:Int)-1) w);have Eu:=ae (fun w=>aK (c:Int) 0 ((m:Int)+(bn:Int)-1) w);simp only[PY]at OJ;simp only[GA]at Eu;obtain⟨T,hT⟩:=b8 (Tb.mk rows basis (m:Int));have zT:=ae (show∀i,i<bn->(T.row i).length=u by rw[hT,hu];exact Ju);rw[<-hT]at Hs;have Ym:=ae (jL Hs);have QA:=ae (show T.rows=rows/\T.basis=basis/\T.q8=(m:Int)by rw[hT];exact⟨rfl,rfl,rfl⟩);have zQ:=ae (show∀i,T.row i=rows[i]?.getD []by intro i;rw[hT];rfl);rw[<-hT]at B6;have HH:=ae (show gP W ra bn rc rows from H.o.rows);have Cr:=ae (show T.q8=(m:Int)by rw[hT]);rw[<-hT]at hval;have Ys:=ae hval;clear hval;rw[Cr.o]at B6;clear h wI Cg Hs PY GA xq Ju Qc hu H;have Mh:dF (Tb.mk rows basis (m:Int)) (r:Int) (c:Int)=dF T (r:Int) (c:Int)/\bo (Tb.mk rows basis (m:Int)) (r:Int) (c:Int)=bo T (r:Int) (c:Int):=by rw[hT];exact⟨rfl,rfl⟩
 rw[Mh.1,Mh.2];clear Mh hT
 show Calls _ _ #[EB ra bn rc ba bn bc (m:Int),.int .i64 (r:Int),.int .i64 (c:Int)] w _;have hrr:(r:Int)<(bn:Int):=by omega
 have yN:(0:Int)<=(r:Int):=by omega
 go_enter Tryz.func151,Tryz.ntmps151
 go_upto_region 1 with fail;rw[<-hW];clear hW;have p0:=au R.o;have p1:=aH R.o;have p2:=aI R.o;go_wp2_with fail;refine HF.o.mono ?_;rintro e w1 ⟨rfl,hx⟩;have X1:=ae hx;clear hx p0 p1 p2;have p0:=au (X1.o.blk R.o);have p1:=aH (X1.o.blk R.o);have p2:=aI (X1.o.blk R.o);go_wp2_with fail;refine(OJ.o _).mono ?_;rintro e w1' ⟨rfl,rfl⟩;go_wp2_with fail;refine(Eu.o _).mono ?_;rintro e w1' ⟨rfl,rfl⟩;go_wp2_with fail;refine(B6.o _ X1.o).mono ?_;rintro e w2 ⟨⟨va,vb,vs,rfl,ho⟩,hx⟩;have X2:=ae (X1.o.trans hx);obtain⟨aa,na,ca,rfl,JP⟩:=ho.a.var;obtain⟨ab,nb,cb,rfl,Kq⟩:=ho.b.var;obtain rfl:na=bn:=by have h1:=ho.rows.len;have h2:=QA.o.1;have h3:=zy.o;have h4:=JP.o;rw[h2]at h1;omega
 obtain rfl:nb=na:=by have h1:=Kq.o;have h2:=QA.o.2.1;have h3:=y4.o;rw[h2]at h1;omega
 obtain⟨G,hG,_,_⟩:=ho.a.cell O;subst hG;obtain⟨B,hB,_,_,_⟩:=ho.b.block O;subst hB;obtain⟨E,hE⟩:=b8 (w2.alloc (.cells #[.slice (some ⟨G,0,none⟩) nb ca,.slice (some ⟨B,0,none⟩) nb cb,.int .i64 (m:Int)] 108));have zw:Ext w2 E:=by rw[hE];exact Ext.alloc _ _
 have Tw:w1.heap.size<=w2.heap.size:=hx.size;have HVS:=ae (fun i g' (hi:i<nb) (he:(vs[i]?.getD undef).ownBlock=some g')=>((ho.rows.row i (by rw[QA.o.1,zy.o];exact hi)).lt g' he).2)
 have Kt:=ae (show DK E w1.heap.size w2.heap.size G nb ca (.slice (some ⟨B,0,none⟩) nb cb) (m:Int) vs rows basis from
  ⟨by rw[hE];exact ak _ _ _ rfl,Tw,⟨ho.a.ext zw,by have:=ho.rows.ext zw;rw[QA.o.1]at this;exact this⟩,by have:=ho.b.ext zw;rw[QA.o.2.1]at this;exact this⟩)
 have XE:=ae (X2.o.trans zw);have Yl:=ae (hx.trans zw);have Mg:w.heap.size+1+1<=w1.heap.size:=by have:=X1.o.size;have:=Bc.o;omega
 have hsE:w1.heap.size<=E.heap.size:=by have:=zw.size;omega
 have HSE:=ae zw.size;clear ho p0 p1 p2 hx;go_upto_region 4 with fail;rw[<-hE];clear hE zw;have p0:=au (XE.o.blk R.o);obtain⟨zb,xJ,za,Z,zc,Bt,L1,o9⟩:=HH.o.at O;subst Bt;have Js:Z=u:=by rw[<-o9.hlen,<-zQ.o];exact zT.o r O
 subst Js;have hrc1:=o9.o3;have hrc2:=o9.l9;have Ay:=ae (show r8 W za Z zc (T.row r)by rw[zQ.o];exact o9);have RX:=ae L1;obtain⟨pb,Ho,pp,pq,hpa,B1,D6,CG⟩:=(Ay.o.ext XE.o).at Vf;subst hpa;have y9:=XE.o.k6 RX.o;have DM:=ae (show T.at r c=(pp,pq)from B1);have JT:=ae (zT.o r O);have hcc:(c:Int)<(Z:Int):=by omega
 have y5:(0:Int)<=(c:Int):=by omega
 clear B1 o9 L1;obtain⟨E2,Qh⟩:=b8 (E.alloc (.cells #[.int .i64 pp,.int .i64 pq] 46));have SU:Ext E E2:=by rw[Qh];exact Ext.alloc _ _
 have Wz:E2.heap.size=E.heap.size+1:=by rw[Qh];simp
 have HM1:=ae (Kt.o.ext SU);have Uu:=ae (show E2.heap[E.heap.size]?=some (.cells #[.int .i64 pp,.int .i64 pq] 46 (0,0))by rw[Qh];exact ak _ _ _ rfl);have T8:=ae (Yl.o.trans SU);have hw2E:w2.heap.size<=E.heap.size:=HSE.o;have HSE2:=ae Wz;go_upto_region 5 with fail;rw[<-Qh];clear Qh SU p0 y9 D6 CG Wz;have p0:=au ((X1.o.trans T8.o).blk R.o);have y9:=(X1.o.trans T8.o).k6 RX.o;go_wp2_with fail
 go_loopg [60] Z (fun gk ii wr=>∃(k:Nat) (I:j6),b7 (gk+k=Z)/\ii=.int .i64 (k:Int)/\b7 (runT (DI (T.row r) (T.at r c)) k=some I)/\b7 (DK wr w1.heap.size w2.heap.size G nb ca (.slice (some ⟨B,0,none⟩) nb cb) (m:Int) vs (rows.set r (I++(T.row r).drop k)) basis)/\b7 (Ext w1 wr)/\b7 (wr.heap[E.heap.size]?=some (.cells #[.int .i64 pp,.int .i64 pq] 46 (0,0))))
 case atStart =>
  refine⟨0,[],ae b9,rfl,ae rfl,ae ?_,T8,Uu⟩;have h1:=HM1.o;have h2:rows.set r ([]++(T.row r).drop 0)=rows:=by
   rw[List.nil_append,List.drop_zero,zQ.o];refine List.ext_getElem? fun i=>?_
   by_cases hir:r=i
   ·subst hir;rw[List.getElem?_set_self (by rw[zy.o];exact O),List.getElem?_eq_getElem (by rw[zy.o];exact O)];rfl
   ·rw[List.getElem?_set_ne hir]
  rw[h2];exact h1
 case round =>
  obtain⟨g1,r7⟩:=b8 gk;subst r7;obtain⟨o7,o6⟩:=b8 wr;subst o6;obtain⟨k,I,HK,rfl,Ks,HT,HX,HP⟩:=hrel;clear p0 y9;have Rj:=HX.o.size;have Oe:=lt_of_block HP.o;by_cases hlt:k<Z
  ·obtain⟨xb,Cc,ex,ey,Hu,SP,wI,wO⟩:=(Ay.o.ext (X1.o.trans HX.o)).at hlt;simp only[Option.some.injEq,Addr.mk.injEq,and_true]at Hu;obtain⟨rfl,rfl⟩:=Hu;have HXV:=ae SP;have q0:o7.cell? ⟨E.heap.size,0,none⟩=some (.int .i64 pp):=(ah HP.o).1;have q1:o7.cell? ⟨E.heap.size,1,none⟩=some (.int .i64 pq):=(ah HP.o).2.1;obtain⟨d1,d2,DH,hdd⟩:∃x y ok,yH (ex,ey) (pp,pq)=((x,y),ok):=⟨_,_,_,rfl⟩;have JX:=ae (show DI (T.row r) (T.at r c) k=if DH=true then some (d1,d2) else none by unfold DI;rw[HXV.o,DM.o,hdd]);have GS:=ae (fun w=>qw ex ey pp pq w);simp only[hdd]at GS;clear SP hdd;go_wp2_with fail;refine(GS.o _).mono ?_;rintro e w5 ⟨rfl,hx⟩;have X5:=ae ((Ext.alloc o7 (.cells #[.int .i64 ex,.int .i64 ey] 46)).trans hx);have X6:=ae (X5.o.trans (Ext.alloc w5 (.cells #[.int .i64 d1,.int .i64 d2] 46)));have A8:=X5.o.size;clear hx q0 q1;obtain⟨E5,Vk⟩:=b8 (w5.alloc (.cells #[.int .i64 d1,.int .i64 d2] 46));have HQ:=ae (show E5.heap[w5.heap.size]?=some (.cells #[.int .i64 d1,.int .i64 d2] 46 (0,0))by rw[Vk];exact ak _ _ _ rfl);rw[<-Vk]at X6;cases DH
   ·have HN:=ae (show bo T (r:Int) (c:Int)=none by
     rw[Ym.o];refine jK ?_
     unfold Bo;rw[JT.o];exact fj Ks.o (by rw[JX.o];rfl) hlt)
    go_upto_region 10 with fail;rw[<-Vk];clear Vk;have xf:=((X1.o.trans HX.o).trans X6.o);have p0:=au (xf.blk R.o);have p1:=aH (xf.blk R.o);have p2:=aI (xf.blk R.o);have XF:=ae xf;clear xf;go_wp2_with fail;refine(B6.o _ XF.o).mono ?_;rintro e w8 ⟨⟨Zx,Zw,OX,rfl,BN⟩,hx⟩;have X8:=ae (XF.o.trans hx);have Hd:=ae BN;obtain⟨a7,n7,c7,rfl,E'⟩:=BN.a.var;obtain⟨a8,n8,c8,rfl,FT⟩:=BN.b.var;have r0:=au (X8.o.blk yA.o);have r1:=aH (X8.o.blk yA.o);have r2:=aI (X8.o.blk yA.o);have rf:=dh (X8.o.blk yA.o);have hsz:=XF.o.size;have Rb:=Bc.o;clear hx BN p0 p1 p2;go_wp2_with fail;refine bodyPost_ret (v:=.tuple #[.agg #[.slice a7 n7 c7,.slice a8 n8 c8,.int .i64 (m:Int)],.bool false]) (by simp[results,Tryz.results151,go_sem,r0,r1,r2,rf]) rfl ⟨?_,(wM.o.trans X8.o).A' (Nat.le_succ _) _ _ _⟩;refine⟨.slice a7 n7 c7,.slice a8 n8 c8,OX,?_,?_⟩
    ·unfold dF;rw[HN.o,Option.getD_none,Cr.o];rfl
    ·unfold dF;rw[HN.o,Option.getD_none];exact(Hd.o.yS fun k hk=>cZ _ _ _ _ _ _ b9).mono b9
   ·go_upto_region 11 with fail;rw[<-Vk];clear Vk;have ID:=ae (dB (x:=(d1,d2)) Ks.o (by rw[JX.o];rfl));have QL:=ae (cU Ks.o);have OD:=ae (HT.o.ext X6.o);have NN:=ae (show(rows.set r (I++(T.row r).drop k))[r]?.getD []=I++(T.row r).drop k by rw[List.getElem?_set_self (by rw[zy.o];exact O)];rfl);have zR:=ae (show(I++(T.row r).drop k).length=Z by rw[List.length_append,List.length_drop,QL.o,JT.o];omega);obtain⟨rg,rcap,Wl,hcr,PO,_,Oo,D',yq,AZ⟩:=OD.o.m.row O (n:=Z) (by rw[NN.o,zR.o]) b9;obtain⟨rg',_,_,_,Xv,_,ho0,Jx⟩:=PO.wK.at hlt;simp only[Option.some.injEq,Addr.mk.injEq,and_true]at Xv;obtain⟨rfl,rfl⟩:=Xv;obtain⟨rg',Xv,_,CL,_⟩:=PO.block hlt;simp only[Option.some.injEq,Addr.mk.injEq,and_true]at Xv;subst Xv;have c8:=OD.o.c0;have q0:E5.cell? ⟨w5.heap.size,0,none⟩=some (.int .i64 d1):=(ah HQ.o).1;have q1:E5.cell? ⟨w5.heap.size,1,none⟩=some (.int .i64 d2):=(ah HQ.o).2.1;have FF:(0:Int)<=(k:Int):=by omega
    have BH:(k:Int)<(Z:Int):=by omega
    have Yr:=ae Wl;have WK:rg≠E.heap.size:=by have:=HVS.o r rg O (by rw[Yr.o];rfl);omega
    have Fu:=ae WK;clear Wl PO WK;rw[Nat.zero_add]at ho0 Jx
    go_still_tail 8,e8
    have HT6:=ae (show DK ((E5.drew.setCell ⟨rg,k*2,none⟩ (.int .i64 d1)).setCell ⟨rg,k*2+1,none⟩ (.int .i64 d2)) w1.heap.size w2.heap.size G nb ca (.slice (some ⟨B,0,none⟩) nb cb) (m:Int) vs (rows.set r ((I++[(d1,d2)])++(T.row r).drop (k+1))) basis by
     have h1:=(OD.o.ext (Ext.drew E5)).DZ O Yr.o (j:=k) (by rw[NN.o,zR.o];exact hlt) d1 d2;rw[NN.o,List.set_set,TP QL.o (by rw[JT.o];exact hlt)]at h1
     exact h1)
    have RY:=ae (((HX.o.trans (X6.o.trans (Ext.drew E5))).setCell (p:=⟨rg,k*2,none⟩) Oo (.int .i64 d1)).setCell (p:=⟨rg,k*2+1,none⟩) Oo (.int .i64 d2))
    have HP6:=ae (show((E5.drew.setCell ⟨rg,k*2,none⟩ (.int .i64 d1)).setCell ⟨rg,k*2+1,none⟩ (.int .i64 d2)).heap[E.heap.size]?=some (.cells #[.int .i64 pp,.int .i64 pq] 46 (0,0))by
     rw[heap_setCell_other _ _ _ _ Fu.o.symm,heap_setCell_other _ _ _ _ Fu.o.symm];exact(X6.o.trans (Ext.drew E5)).blk HP.o)
    go_wp2_with fail
    go_roundg (g1-1)
    case measure=>have:=HK.o;omega
    case rel=>exact⟨k+1,I++[(d1,d2)],ae (j4 HK.o),by go_num,ID,HT6,RY,HP6⟩
  ·have xQ:Z=k:=by have:=HK.o;omega
   subst xQ;have Gf:=ae (show Bo (T.row r) (T.at r c)=some I by unfold Bo;rw[JT.o];exact Ks.o)
   have YK:=ae (show bo T (r:Int) (c:Int)=(y7 T r c I nb).map fun rs=>⟨rs,basis.set r (c:Int),(m:Int)⟩by
    rw[Ym.o,lu Gf.o,QA.o.1,zy.o,QA.o.2.1,Cr.o])
   have Yw:=ae (show DK o7 w1.heap.size w2.heap.size G nb ca (.slice (some ⟨B,0,none⟩) nb cb) (m:Int) vs (rows.set r I) basis by
    have h1:=HT.o
    rw[List.drop_eq_nil_of_le (by rw[JT.o];exact Nat.le_refl _),List.append_nil]at h1;exact h1)
   have p0:=au ((X1.o.trans HX.o).blk R.o);clear Oe;go_wp2_with fail
   go_loopg [87] nb (fun gk ii wr=>∃(k:Nat) (U:List Value) (M:List (j6)),b7 (gk+k=nb)/\ii=.int .i64 (k:Int)/\b7 (y7 T r c I k=some M)/\b7 (DK wr w1.heap.size w2.heap.size G nb ca (.slice (some ⟨B,0,none⟩) nb cb) (m:Int) U M basis)/\b7 (Ext w1 wr))
   case atStart=>exact⟨0,vs,rows.set r I,ae b9,rfl,ae (by simp only[y7,QA.o.1]),Yw,HX⟩
   case round =>
    obtain⟨g2,xK⟩:=b8 gk;subst xK;obtain⟨J,wT⟩:=b8 wr;subst wT;obtain⟨k,U,M,N0,rfl,R3,Bu,xZ⟩:=hrel;clear p0;have hsr2:=xZ.o.size;by_cases yp:k<nb
    ·obtain⟨zb2,VF,ya,yn,yc,L0,SM,BE⟩:=(HH.o.ext (X1.o.trans xZ.o)).at yp;simp only[Option.some.injEq,Addr.mk.injEq,and_true]at L0;obtain⟨rfl,rfl⟩:=L0;obtain rfl:yn=Z:=by rw[<-BE.hlen,<-zQ.o,<-JT.o,zT.o k yp,zT.o r O]
     have Kn:=ae (show r8 J ya yn yc (T.row k)by rw[zQ.o];exact BE);obtain⟨yb,xB,p,q,Da,xk,AJ,xM⟩:=Kn.o.at Vf;subst Da;have yt:=ae (show T.at k c=(p,q)from xk);have hyk1:=BE.o3;have hyk2:=BE.l9;clear xk BE;have Eo:=ae (show decide (k=r∨T.at k c=(0,1))=(decide (k=r)||((p == 0)&&(q == 1)))by rw[yt.o,Bool.eq_iff_iff];simp);go_upto_region 16 with fail
     go_cut [102] (fun Sx wx=>Sx=.bool (decide (k=r∨T.at k c=(0,1)))/\b7 (Ext J wx))
     case first =>
      have k7:Ext J J.drew:=Ext.drew J;by_cases JA:k=r
      ·have heq:((k:Int) == (r:Int))=true:=by simp;omega
       have QR:=ae (show decide (k=r∨T.at k c=(0,1))=true by rw[Eo.o,decide_eq_true JA];rfl);clear JA;refine wp_region_held_drew (S:=(fun w'=>w'.cell? ⟨yb,xB+c*2,none⟩=some (.int .i64 p)/\w'.cell? ⟨yb,xB+c*2+1,none⟩=some (.int .i64 q)/\Ext J w')) e8 ?_ (fun k9=>?_)
       ·exact⟨k7.k6 AJ,k7.k6 xM,k7⟩
       refine tk 0 ?_;refine tk 1 ?_;refine tk 2 ?_;refine tk 3 ?_;refine sk 4 ?_;refine sk 5 ?_;refine sk 6 ?_;refine sk 7 ?_;refine sk 8 ?_;refine sk 9 ?_;refine tk 10 ?_;refine wpAnyH_done e8 ?_ _;go_wp2_with fail;go_meet;exact⟨by rw[QR.o],ae k7⟩
      ·have heq:((k:Int) == (r:Int))=false:=by simp;omega
       have QR:=ae (show decide (k=r∨T.at k c=(0,1))=((p == 0)&&(q == 1))by rw[Eo.o,decide_eq_false JA];rfl);clear JA;cases h1:(p == 0)
       all_goals
        cases h2:(q == 1)
       all_goals
        have Sd:=ae QR.o;rw[h1,h2]at Sd;refine wp_region_held_drew (S:=(fun w'=>w'.cell? ⟨yb,xB+c*2,none⟩=some (.int .i64 p)/\w'.cell? ⟨yb,xB+c*2+1,none⟩=some (.int .i64 q)/\Ext J w')) e8 ?_ (fun k9=>?_)
        ·exact⟨k7.k6 AJ,k7.k6 xM,k7⟩
        refine tk 0 ?_;refine tk 1 ?_;refine tk 2 ?_;refine tk 3 ?_;refine tk 4 ?_;refine tk 5 ?_;refine tk 6 ?_;refine tk 7 ?_;refine rd (i:=8) (h:=fun K hK=>?_);go_simp
        (go_at_call 18;refine(cG _ _).mono ?_;rintro e w3 ⟨rfl,wS⟩;have k7:=k7.trans wS)
        go_wp2_with fail;refine hK.out _ _ ?_ (fun k9=>?_)
        ·exact⟨k7.k6 AJ,k7.k6 xM,k7⟩
        clear hK K
        try simp only[Act.put,sA,sB,sC]
        refine tk 9 ?_;refine tk 10 ?_;refine wpAnyH_done e8 ?_ _;go_wp2_with fail;go_meet;exact⟨by rw[Sd.o];rfl,ae k7⟩
     obtain⟨rfl,Fp⟩:=hcut;have NK:=ae (Bu.o.ext Fp.o);have xj:=ae (xZ.o.trans Fp.o);have Uq:=ae (Kn.o.ext Fp.o);replace AJ:=Fp.o.k6 AJ;replace xM:=Fp.o.k6 xM;clear SM;cases hsk:decide (k=r∨T.at k c=(0,1))
     ·have QI:=ae (of_decide_eq_false hsk);clear hsk;have YJ:=ae (pi (t:=T) (by rw[QA.o.1,zy.o];exact O) R3.o);obtain⟨mg,yF,hvm,Eb,hom,_,_,_,hmc1,hmc2⟩:=NK.o.m.row O (n:=I.length) (by rw[YJ.o.2]) (by rw[cU Ks.o];omega);rw[YJ.o.2]at hom;have Ko:=ae hom.wK;have C5:=ae (cU Ks.o);obtain⟨mn,W7⟩:=b8 I.length;rw[<-W7]at Eb Ko C5;have hmn2:mn<=200000:=by have:=C5.o;omega
      have c8:=NK.o.c0;have D6:-9223372036854775807<=p:=by have:=Ys.o k c;rw[yt.o]at this;exact this.1
      have CG:p<=9223372036854775807:=by have:=Ys.o k c;rw[yt.o]at this;exact this.2
      have OF:=ae (fun(wz:World) (z1:j8) (z2 z3:Nat) (z4:j8) (z5 z6:Nat) (h1:r8 wz z1 z2 z3 (T.row k)) (h2:r8 wz z4 z5 z6 I) (h3:z2<=1048576)=>lk (k1:=-p) (k2:=q) h1 h2 h3);obtain⟨sv,Hx⟩:=b8 (zo (T.row k) (-p,q) I);have En:=ae (show y7 T r c I (k+1)=sv.map fun x=>M.set k x by rw[Hx,tn R3.o QI.o,yt.o];rfl);simp only[<-Hx]at OF;clear Hx hvm hom W7;go_upto_region 17 with fail;have k7:Ext wc wc.drew:=Ext.drew wc;have xI:=k7;have k8:=ae (fun(w':World) (h:Ext wc w')=>(⟨h.k6 AJ,h.k6 xM,h.k6 c8,h.k6 Eb,h⟩:w'.cell? ⟨yb,xB+c*2,none⟩=some (.int .i64 p)/\w'.cell? ⟨yb,xB+c*2+1,none⟩=some (.int .i64 q)/\w'.cell? ⟨w2.heap.size,0,none⟩=some (.slice (some ⟨G,0,none⟩) nb ca)/\w'.cell? ⟨G,r,none⟩=some (.slice (some ⟨mg,0,none⟩) mn yF)/\Ext wc w'))
      go_region_held3 (fun w'=>w'.cell? ⟨yb,xB+c*2,none⟩=some (.int .i64 p)/\w'.cell? ⟨yb,xB+c*2+1,none⟩=some (.int .i64 q)/\w'.cell? ⟨w2.heap.size,0,none⟩=some (.slice (some ⟨G,0,none⟩) nb ca)/\w'.cell? ⟨G,r,none⟩=some (.slice (some ⟨mg,0,none⟩) mn yF)/\Ext wc w')
       (with_reducible exact k8.o _ k7)
       (first
         | (go_at_call 25
            (with_reducible refine(eM p q _ D6 CG).mono ?_)
            rintro e w3 ⟨rfl,wN⟩;have k7:Ext wc w3:=k7.trans wN
            have IS:=k7.size)
         | (go_at_call 168
            (with_reducible refine(OF.o _ _ _ _ _ _ _ (Uq.o.ext (by first|with_reducible exact k7|with_reducible exact xI|with_reducible exact k7.trans (Ext.alloc _ _))) (Ko.o.ext (by first|with_reducible exact k7|with_reducible exact xI|with_reducible exact k7.trans (Ext.alloc _ _))) b9).mono ?_)
            rintro e w4 ⟨⟨v4,rfl,Ci⟩,xd⟩;have hs4':=k7.size;obtain⟨a4,n4,c4,rfl,EF⟩:=Ci.var;have k7:Ext wc w4:=k7.trans xd
            have Rk:=k7.size)
         | fail)
      clear k8 xI;have Ai:=ae (xj.o.trans k7);have OE:=ae (NK.o.ext k7);have yW:=ae (Ci.mono hs4');have HK4:=ae k7;clear k7 Ci AJ xM c8 Eb;cases sv with
      | none =>
        have HN:=ae (show bo T (r:Int) (c:Int)=none by rw[YK.o,pk (k:=k+1) (by rw[En.o];rfl) yp];rfl);have xf:=(X1.o.trans Ai.o);have p0:=au (xf.blk R.o);have p1:=aH (xf.blk R.o);have p2:=aI (xf.blk R.o);have XF:=ae xf;clear xf;go_wp2_with fail;refine(B6.o _ XF.o).mono ?_;rintro e w8 ⟨⟨Zx,Zw,OX,rfl,BN⟩,hx⟩;have X8:=ae (XF.o.trans hx);have Hd:=ae BN;obtain⟨a7,n7,c7,rfl,E'⟩:=BN.a.var;obtain⟨a8,n8,c8,rfl,FT⟩:=BN.b.var;have r0:=au (X8.o.blk yA.o);have r1:=aH (X8.o.blk yA.o);have r2:=aI (X8.o.blk yA.o);have rf:=dh (X8.o.blk yA.o);have hsz:=XF.o.size;have Rb:=Bc.o;clear hx BN p0 p1 p2;go_wp2_with fail;refine bodyPost_ret (v:=.tuple #[.agg #[.slice a7 n7 c7,.slice a8 n8 c8,.int .i64 (m:Int)],.bool false]) (by simp[results,Tryz.results151,go_sem,r0,r1,r2,rf]) rfl ⟨?_,(wM.o.trans X8.o).A' (Nat.le_succ _) _ _ _⟩;refine⟨.slice a7 n7 c7,.slice a8 n8 c8,OX,?_,?_⟩
        ·unfold dF;rw[HN.o,Option.getD_none,Cr.o];rfl
        ·unfold dF;rw[HN.o,Option.getD_none];exact(Hd.o.yS fun k hk=>cZ _ _ _ _ _ _ b9).mono b9
      | some nr =>
        have c8:=OE.o.c0;obtain⟨G',AL,DF,RH⟩:=OE.o.m.own.cell yp;simp only[Option.some.injEq,Addr.mk.injEq,and_true]at AL;subst AL;have hgk:w4.cell? ⟨G,k,none⟩=some (U[k]?.getD undef):=by
         rw[RH k yp];have:k<U.length:=by rw[OE.o.m.Aj];exact yp
         simp[this]
        obtain⟨G',AL,_,_,CL⟩:=OE.o.m.outer b9;simp only[Option.some.injEq,Addr.mk.injEq,and_true]at AL;subst AL;have OD:=ae (NK.o.put HK4.o (j4 xj.o.size) yW.o yp);have Br:=ae (Ai.o.setCell (p:=⟨G,k,none⟩) DF (.slice a4 n4 c4));have HP5:=ae (show y7 T r c I (k+1)=some (M.set k nr)by rw[En.o];rfl);clear RH;go_wp2_with fail
        go_roundg (g2-1)
        case measure=>have:=N0.o;omega
        case rel=>exact⟨k+1,_,_,ae (j4 N0.o),by go_num,HP5,OD,Br⟩
     ·have JL:=ae (pl R3.o (of_decide_eq_true hsk));clear hsk;go_wp2_with fail
      go_roundg (g2-1)
      case measure=>have:=N0.o;omega
      case rel=>exact⟨k+1,U,M,ae (j4 N0.o),by go_num,JL,NK,xj⟩
    ·have xQ:nb=k:=by have:=N0.o;omega
     subst xQ;have HN:=ae (show bo T (r:Int) (c:Int)=some ⟨M,basis.set r (c:Int),(m:Int)⟩by rw[YK.o,R3.o];rfl);have c81:=aH Bu.o.box;obtain⟨B',off',MX,Ig⟩:=Bu.o.b.ints.at O;simp only[Option.some.injEq,Addr.mk.injEq,and_true]at MX;obtain⟨rfl,rfl⟩:=MX;obtain⟨B',MX,hbB,Qd,_⟩:=Bu.o.b.block O;simp only[Option.some.injEq,Addr.mk.injEq,and_true]at MX;subst MX;rw[Nat.zero_add]at Ig;have Iu:=ae (Bu.o.VS r (c:Int));have Fq:=ae (xZ.o.setCell (p:=⟨B,r,none⟩) hbB (.int .i64 (c:Int)));go_upto_region 23 with fail;obtain⟨W9,ET⟩:=b8 (J.setCell ⟨B,r,none⟩ (.int .i64 (c:Int)));rw[<-ET]at Iu Fq⊢;clear ET c81 Ig Qd;have r0:=au ((X1.o.trans Fq.o).blk yA.o);have r1:=aH ((X1.o.trans Fq.o).blk yA.o);have r2:=aI ((X1.o.trans Fq.o).blk yA.o);have rf:=dh ((X1.o.trans Fq.o).blk yA.o);have t0:=au Iu.o.box;have t1:=aH Iu.o.box;have t2:=aI Iu.o.box;go_wp2_with fail;refine bodyPost_ret (v:=.tuple #[.agg #[.slice (some ⟨G,0,none⟩) nb ca,.slice (some ⟨B,0,none⟩) nb cb,.int .i64 (m:Int)],.bool true]) (by simp[results,Tryz.results151,go_sem,r0,r1,r2,rf]) rfl ⟨?_,((wM.o.trans X1.o).trans Fq.o).A' (Nat.le_succ _) _ _ _⟩;refine⟨.slice (some ⟨G,0,none⟩) nb ca,.slice (some ⟨B,0,none⟩) nb cb,U,?_,?_⟩
     ·unfold dF;rw[HN.o,Option.getD_some];rfl
     ·unfold dF;rw[HN.o,Option.getD_some];exact(Iu.o.own.yS fun k hk=>cZ _ _ _ _ _ _ b9).mono b9
theorem nW(h:EZ w ra rn rc ba bn bc t)(I:rn<=100000)(ER:bn<=100000)(Cg:∀i,i<rn->(t.row i).length<=1048576)(G:∀i j,-9223372036854775807<=(t.at i j).1/\(t.at i j).1<=9223372036854775807)(row wX:Int):
 Calls Tryz.prog 151 #[EB ra rn rc ba bn bc t.q8,.int .i64 row,.int .i64 wX] w fun e w'=>JJ w' w.heap.size e (dF t row wX) (bo t row wX).isSome/\Ext w w':=by
 cases hp:dN t row wX
 ·have e:=vZ hp;unfold dF;rw[e];exact mP h I ER Cg row wX hp
 ·exact mQ h I ER G row wX hp
end
structure Mod(S:Nat)(w w':World):Prop where
 os:w'.os=w.os
 tape:w'.tape=w.tape
 output:w'.output=w.output
 size:w.heap.size<=w'.heap.size
 block:∀k,k<w.heap.size->k≠S->w'.heap[k]?=w.heap[k]?
theorem Mod.refl(S:Nat)(w:World):Mod S w w:=⟨rfl,rfl,rfl,Nat.le_refl _,fun _ _ _=>rfl⟩
theorem Mod.of(h:Ext w w'):Mod S w w':=⟨h.os,h.tape,h.output,h.size,fun k hk _=>h.block k hk⟩
theorem Mod.trans{a b c:World}(h:Mod S a b)(k:Mod S b c):Mod S a c :=
 ⟨k.os.trans h.os,k.tape.trans h.tape,k.output.trans h.output,Nat.le_trans h.size k.size,fun i hi hn=>(k.block i (Nat.lt_of_lt_of_le hi h.size) hn).trans (h.block i hi hn)⟩
theorem Mod.set(S:Nat)(w:World)(k:Nat)(v:Value):Mod S w (w.setCell ⟨S,k,none⟩ v):=by
 have h:=(Below.refl S w).setCell (p:=⟨S,k,none⟩) (Nat.le_refl S) v;exact⟨h.os,h.tape,h.output,h.size,fun i _ hn=>heap_setCell_other _ _ _ _ hn⟩
theorem Mod.ext{w0:World}(h:Mod S w w')(hx:Ext w0 w)(hs:w0.heap.size<=S):Ext w0 w' :=
 ⟨h.os.trans hx.os,h.tape.trans hx.tape,h.output.trans hx.output,Nat.le_trans hx.size h.size,fun k hk=>(h.block k (Nat.lt_of_lt_of_le hk hx.size) b9).trans (hx.block k hk)⟩
structure dD(w:World)(S:Nat)(ra:j8)(rn rc:Nat)(ba:j8)(bn bc:Nat)(vs:List Value)(t:Tb)(n:Nat)(f:Bool):Prop where
 box:w.heap[S]?=some (.cells #[.slice ra rn rc,.slice ba bn bc,.int .i64 t.q8,.int .i64 (n:Int),.bool f] 124 (0,0))
 tb:yK w 0 (.slice ra rn rc) (.slice ba bn bc) vs t
theorem yK.KY{base k:Nat}{I G:Value}{vs:List Value}{c:Array Value}{z:Nat×Nat}{v:Value}(h:yK w base I G vs t)(hb:w.heap[S]?=some (.cells c 124 z)):yK (w.setCell ⟨S,k,none⟩ v) base I G vs t :=
 ⟨ec h.a hb (by decide),⟨h.rows.len,fun i hi=>ec (h.rows.row i hi) hb (by decide),h.rows.apart⟩,ec h.b hb (by decide)⟩
section
variable{w:World}{S:Nat}{ra:j8}{rn rc:Nat}{ba:j8}{bn bc:Nat}{vs:List Value}{t:Tb}{n:Nat}{f:Bool}
theorem dD.ext{w':World}(h:dD w S ra rn rc ba bn bc vs t n f)(hx:Ext w w'):dD w' S ra rn rc ba bn bc vs t n f:=⟨(hx.block _ (lt_of_block h.box)).trans h.box,h.tb.ext hx⟩
theorem dD.cells(h:dD w S ra rn rc ba bn bc vs t n f):w.cell? ⟨S,0,none⟩=some (.slice ra rn rc)/\w.cell? ⟨S,1,none⟩=some (.slice ba bn bc)/\w.cell? ⟨S,2,none⟩=some (.int .i64 t.q8)/\w.cell? ⟨S,3,none⟩=some (.int .i64 (n:Int))/\w.cell? ⟨S,4,none⟩=some (.bool f)/\∀k,w.frozen? ⟨S,k,none⟩=false:=by
 have hb:=h.box;refine⟨?_,?_,?_,?_,?_,fun k=>frozen_of_row w S k _ _ hb⟩<;>rw[cell_of_row w S _ _ _ _ hb]<;>rfl
theorem dD.fail(h:dD w S ra rn rc ba bn bc vs t n f):dD (w.setCell ⟨S,4,none⟩ (.bool true)) S ra rn rc ba bn bc vs t n true :=
 ⟨heap_setCell_same w S 4 _ _ (.bool true) h.box,h.tb.KY h.box⟩
theorem dD.step(h:dD w S ra rn rc ba bn bc vs t n f){U:j8}{W G:Nat}{J:j8}{R I:Nat}{K:List Value}{O:Tb}(ho:yK w 0 (.slice U W G) (.slice J R I) K O):
 dD ((((w.setCell ⟨S,0,none⟩ (.slice U W G)).setCell ⟨S,1,none⟩ (.slice J R I)).setCell ⟨S,2,none⟩ (.int .i64 O.q8)).setCell ⟨S,3,none⟩ (.int .i64 ((n:Int)+1))) S U W G J R I K O (n+1) f:=by
 have b1:=heap_setCell_same w S 0 _ _ (.slice U W G) h.box;have u:=heap_setCell_same _ S 1 _ _ (.slice J R I) b1;have Z:=heap_setCell_same _ S 2 _ _ (.int .i64 O.q8) u;have b4:=heap_setCell_same _ S 3 _ _ (.int .i64 ((n:Int)+1)) Z;refine⟨?_,(((ho.KY h.box).KY b1).KY u).KY Z⟩;rw[b4];have:((n+1:Nat):Int)=(n:Int)+1:=by simp
 rw[this];rfl
end
theorem l8.mod{b:Nat}{v:Value}{l:j6}(h:l8 w b v l)(hm:Mod S w w'){c:Array Value}{z:Nat×Nat}(hb:w.heap[S]?=some (.cells c 124 z)):l8 w' b v l :=
 h.keep fun k hk=>hm.block k (h.lt k hk).2 fun e=>(av h hb (by decide)) (by rw[hk,e])
def Left(S:Nat)(w w':World)(o:Option (Tb×Nat)):Prop :=
 Mod S w w'/\∃ra rn rc ba bn bc vs,match o with
  | some (t,n)=>dD w' S ra rn rc ba bn bc vs t n false
  | none=>∃t n,dD w' S ra rn rc ba bn bc vs t n true
def Ar(t:Tb)(n:Nat)(row wX:Int):Option (Tb×Nat):=if n=1000 then none else(bo t row wX).map fun t'=>(t',n+1)
theorem xY.bounds{n:Nat}(h:xY n m T0 t):(∀i,i<m->(t.row i).length=n+m+1)/\∀i j,-9223372036854775807<=(t.at i j).1/\(t.at i j).1<=9223372036854775807:=by
 refine⟨fun i hi=>(h.row i hi).1,fun i j=>?_⟩;by_cases hi:i<m
 ·by_cases hj:j<n+m+1
  ·have:=aQ ((h.row i hi).2 j hj);unfold Tb.at
   omega
  ·unfold Tb.at
   rw[List.getElem?_eq_none (by rw[(h.row i hi).1];omega)];simp
 ·unfold Tb.at Tb.row;rw[List.getElem?_eq_none (l:=t.rows) (by rw[h.len];omega)];simp
section
variable{w:World}{S:Nat}{ra:j8}{rn rc:Nat}{ba:j8}{bn bc:Nat}{vs:List Value}{t:Tb}{n:Nat}
theorem sV(h:dD w S ra rn rc ba bn bc vs t n false){N m:Nat}{T0:Nat->Nat->Rat}(hT:xY N m T0 t)(hN:N<=1000)(hm:m<=1000)(hn:n<=1000)(row wX:Int):
 Calls Tryz.prog 109 #[.pointer (some ⟨S,0,none⟩),.int .i64 row,.int .i64 wX] w fun e w'=>e=.returned (.tuple #[])/\Left S w w' (Ar t n row wX):=by
 have hlt:=lt_of_block h.box;obtain⟨c0,c1,c2,c3,c4,Z⟩:=h.cells;have H:=ae h;by_cases F4:n=1000
 ·subst F4;have HP:=ae (show Ar t 1000 row wX=none by unfold Ar;rw[if_pos rfl]);clear h;go_enter Tryz.func109,Tryz.ntmps109
  go_wp2_with fail;refine bodyPost_ret (results_none rfl _ _ _) rfl ⟨rfl,Mod.set _ _ _ _,?_⟩;rw[HP.o];exact⟨_,_,_,_,_,_,_,_,_,H.o.fail⟩
 ·have Jy:((n:Int) == 1000)=false:=by simp;omega
  have Bj:n<1000:=by omega
  have HB:=ae hT.bounds;have wQ:=ae h.tb.Be;have BF:rn=m:=by rw[<-h.tb.Be.rows.hlen,hT.len]
  have ER:bn=m:=by rw[<-h.tb.Be.basis.hlen,hT.zP]
  have DM:=ae (nW h.tb.Be b9 b9 (fun i hi=>by rw[hT.bounds.1 i b9];omega) hT.bounds.2 row wX);have HP:=ae (show Ar t n row wX=(bo t row wX).map fun W=>(W,n+1)by unfold Ar;rw[if_neg F4]);clear h hT F4 BF ER;unfold JJ dF at DM;cases hp:bo t row wX with
  | none =>
    rw[hp]at DM HP;go_enter Tryz.func109,Tryz.ntmps109
    go_wp2_with fail;refine DM.o.mono ?_;simp only[Option.getD_none,Option.isSome_none];rintro e w1 ⟨⟨va,u,J,rfl,ho⟩,hx⟩;obtain⟨R,n7,K,rfl,E'⟩:=ho.a.var;obtain⟨O,n8,c8,rfl,FT⟩:=ho.b.var;obtain⟨U,I⟩:=b8 (w1.alloc (.cells #[.slice R n7 K,.slice O n8 c8,.int .i64 t.q8] 108));have X1:=ae (show Ext w U by rw[I];exact hx.trans (Ext.alloc _ _));have HO:=ae (show yK U 0 (.slice R n7 K) (.slice O n8 c8) J t by rw[I];exact(ho.ext (Ext.alloc _ _)).mono (Nat.zero_le _));have G:=ae (show U.heap[w1.heap.size]?=some (.cells #[.slice R n7 K,.slice O n8 c8,.int .i64 t.q8] 108 (0,0))by rw[I];exact ak _ _ _ rfl);have HS:=ae (H.o.ext X1.o);go_upto_region 3 with fail;rw[<-I];clear I ho hx c0 c1 c2 c3 c4 Z;obtain⟨c0,c1,c2,c3,c4,Z⟩:=HS.o.cells;have b0:=au G.o;have b1:=aH G.o;have b2:=aI G.o;have yp:=lt_of_block G.o;have hne:w1.heap.size≠S:=fun e=>jk G.o HS.o.box (by decide) e
    go_wp2_with fail;refine bodyPost_ret (results_none rfl _ _ _) rfl ⟨rfl,(Mod.of X1.o).trans (Mod.set _ _ _ _),?_⟩;rw[HP.o];exact⟨_,_,_,_,_,_,_,_,_,HS.o.fail⟩
  | some W =>
    rw[hp]at DM HP;go_enter Tryz.func109,Tryz.ntmps109
    go_wp2_with fail;refine DM.o.mono ?_;simp only[Option.getD_some,Option.isSome_some];rintro e w1 ⟨⟨va,u,J,rfl,ho⟩,hx⟩;obtain⟨R,n7,K,rfl,E'⟩:=ho.a.var;obtain⟨O,n8,c8,rfl,FT⟩:=ho.b.var;obtain⟨U,I⟩:=b8 (w1.alloc (.cells #[.slice R n7 K,.slice O n8 c8,.int .i64 W.q8] 108));have X1:=ae (show Ext w U by rw[I];exact hx.trans (Ext.alloc _ _));have HO:=ae (show yK U 0 (.slice R n7 K) (.slice O n8 c8) J W by rw[I];exact(ho.ext (Ext.alloc _ _)).mono (Nat.zero_le _));have G:=ae (show U.heap[w1.heap.size]?=some (.cells #[.slice R n7 K,.slice O n8 c8,.int .i64 W.q8] 108 (0,0))by rw[I];exact ak _ _ _ rfl);have HS:=ae (H.o.ext X1.o);go_upto_region 3 with fail;rw[<-I];clear I ho hx c0 c1 c2 c3 c4 Z;obtain⟨c0,c1,c2,c3,c4,Z⟩:=HS.o.cells;have b0:=au G.o;have b1:=aH G.o;have b2:=aI G.o;have yp:=lt_of_block G.o;have hne:w1.heap.size≠S:=fun e=>jk G.o HS.o.box (by decide) e
    go_wp2_with fail;refine bodyPost_end (results_none rfl _ _ _) rfl ⟨rfl,(Mod.of X1.o).trans ((((Mod.set _ _ _ _).trans (Mod.set _ _ _ _)).trans (Mod.set _ _ _ _)).trans (Mod.set _ _ _ _)),?_⟩;rw[HP.o];exact⟨_,_,_,_,_,_,_,HS.o.step HO.o⟩
end
theorem mW(f:Nat)(h:bS t cost=none):aJ cost f t=none:=by unfold aJ;rw[h]
theorem lm(f:Nat)(h:bS t cost=some cs)(he:aX cs t.q8<0):aJ cost f t=some ⟨t,f,cs,-1⟩:=by unfold aJ;rw[h];simp only[he,if_true]
theorem ln(f:Nat)(h:bS t cost=some cs)(he:¬aX cs t.q8<0)(hl:bP t (aX cs t.q8)<0):aJ cost f t=some ⟨t,f,cs,aX cs t.q8⟩:=by
 unfold aJ;rw[h];simp only[he,hl,if_true,if_false]
theorem ls{n:Nat}(hn:n<=1000)(h:bS t cost=some cs)(he:¬aX cs t.q8<0)(hl:¬bP t (aX cs t.q8)<0):
 aJ cost (1000-n) t=(Ar t n (bP t (aX cs t.q8)) (aX cs t.q8)).bind fun s=>aJ cost (1000-s.2) s.1:=by
 unfold Ar;by_cases F4:n=1000
 ·subst F4;unfold aJ;rw[h];simp only[he,hl,if_false,if_true];rfl
 ·rw[if_neg F4];obtain⟨f,hf⟩:∃f,1000-n=f+1:=⟨999-n,by omega⟩;rw[hf];have e:1000-(n+1)=f:=by omega
  conv=>lhs;unfold aJ
  rw[h];simp only[he,hl,if_false];cases bo t (bP t (aX cs t.q8)) (aX cs t.q8)with
  | none=>rfl
  | some t'=>simp only[Option.map_some,Option.bind_some,e]
def RunP(S:Nat)(w:World)(e:Ending)(w':World)(o:Option Ph):Prop :=
 Mod S w w'/\∃ra rn rc ba bn bc vs,match o with
  | some p=>∃v,e=.returned (.tuple #[v,.int .i64 p.wX])/\l8 w' w.heap.size v p.costs/\dD w' S ra rn rc ba bn bc vs p.t (1000-p.left) false
  | none=>∃v wX t n,e=.returned (.tuple #[v,.int .i64 wX])/\dD w' S ra rn rc ba bn bc vs t n true
structure Head(w wr:World)(S:Nat)(N m:Nat)(T0:Nat->Nat->Rat)(cost:j6)(o:Option Ph)(gk:Nat)(nn:Nat)(f:Bool)(tt:Tb)(ra:j8)(rn rc:Nat)(ba:j8)(bn bc:Nat)(vs:List Value):Prop where
 meas:gk=if f=true then 0 else 2*(1000-nn)+1
 mod:Mod S w wr
 st:dD wr S ra rn rc ba bn bc vs tt nn f
 go:f=false->xY N m T0 tt/\nn<=1000/\aJ cost (1000-nn) tt=o
 no:f=true->o=none
section
variable{w:World}{S:Nat}{ra:j8}{rn rc:Nat}{ba:j8}{bn bc:Nat}{vs:List Value}{t:Tb}{n:Nat}
theorem Q'(h:dD w S ra rn rc ba bn bc vs t n false){N m:Nat}{T0:Nat->Nat->Rat}(hT:xY N m T0 t)(hN:N<=1000)(hm:m<=1000)(hn:n<=1000){ka:j8}{kn kc b0:Nat}{cost:j6}(hc:l8 w b0 (.slice ka kn kc) cost):
 Calls Tryz.prog 107 #[.pointer (some ⟨S,0,none⟩),.slice ka kn kc] w fun e w'=>RunP S w e w' (aJ cost (1000-n) t):=by
 obtain⟨o,ho⟩:=b8 (aJ cost (1000-n) t);rw[<-ho];have H0:=ae (show Head w w S N m T0 cost o (2*(1000-n)+1) n false t ra rn rc ba bn bc vs from⟨by simp,Mod.refl _ _,h,fun _=>⟨hT,hn,ho.symm⟩,fun e=>by cases e⟩);have HC:=ae hc;have yu:=ae h.box;have hlt:=lt_of_block h.box;clear h hT ho hc;go_enter Tryz.func107,Tryz.ntmps107
 go_wp2_with fail
 go_loopg [8] (2*(1000-n)+1) (fun gk s8 wr=>∃(G:Nat) (f:Bool) (I:Tb) (ra:j8) (rn rc:Nat) (ba:j8) (bn bc:Nat) (vs:List Value),b7 (Head w wr S N m T0 cost o gk G f I ra rn rc ba bn bc vs))
 case atStart=>exact⟨n,false,t,_,_,_,_,_,_,_,H0⟩
 case round =>
  obtain⟨g1,r7⟩:=b8 gk;subst r7;obtain⟨o7,o6⟩:=b8 wr;subst o6;obtain⟨G,f,I,ra,rn,rc,ba,bn,bc,vs,HH⟩:=hrel;clear H0;obtain⟨c0,c1,c2,c3,c4,J⟩:=HH.o.st.cells;have hl1:=lt_of_block HH.o.st.box;have Cu:=HH.o.mod.size;cases f
  ·obtain⟨hT,Bj,R⟩:=HH.o.go rfl;have HT:=ae hT;have QF:=ae R;have zm:=hT.q8;have U:=ae (vj HH.o.st.tb.Be (by rw[<-HH.o.st.tb.Be.rows.hlen,hT.len];omega) ((HC.o.mod HH.o.mod yu.o).wK));rw[zm]at c2 U;have Cq:=ae zm;clear hT R zm;cases hcs:bS I cost with
   | none =>
     have HO:=ae (show o=none by rw[<-QF.o];exact mW _ hcs);rw[hcs]at U;go_wp2_with fail;refine U.o.mono ?_;simp only[Option.getD_none,Option.isSome_none];rintro e w2 ⟨⟨v2,rfl,K⟩,hx⟩;have HS:=ae (HH.o.st.ext hx);have HM:=ae (HH.o.mod.trans (Mod.of hx));clear K hx c0 c1 c2 c3 c4 J hcs;obtain⟨c0,c1,c2,c3,c4,J⟩:=HS.o.cells;go_wp2_with fail
     go_ret2
     refine⟨HM.o.trans (Mod.set _ _ _ _),?_⟩;rw[HO.o];exact⟨_,_,_,_,_,_,_,_,_,_,_,rfl,HS.o.fail⟩
   | some cs =>
     rw[hcs]at U;have Gg:=ae hcs;go_wp2_with fail;refine U.o.mono ?_;simp only[Option.getD_some,Option.isSome_some];rintro e w2 ⟨⟨v2,rfl,K⟩,hx⟩;obtain⟨a2,n2,p2,rfl,Fa⟩:=K.var;have HS:=ae (HH.o.st.ext hx);have HM:=ae (HH.o.mod.trans (Mod.of hx));have yE:=ae (show l8 w2 w.heap.size (.slice a2 n2 p2) cs from l8.mono K Cu);clear K hx c0 c1 c2 c3 c4 J hcs;obtain⟨c0,c1,c2,c3,c4,J⟩:=HS.o.cells;rw[Cq.o]at c2;obtain⟨wX,zU⟩:=b8 (aX cs (N:Int));have B6:=ae zU;clear zU;go_upto_region 5 with fail;have k7:Ext w2 w2.drew:=Ext.drew w2;have xI:=k7;have k8:=ae (fun(w':World) (h:Ext w2 w')=>(⟨h.k6 c0,h.k6 c1,h.k6 c2,h⟩:w'.cell? ⟨S,0,none⟩=some (.slice ra rn rc)/\w'.cell? ⟨S,1,none⟩=some (.slice ba bn bc)/\w'.cell? ⟨S,2,none⟩=some (.int .i64 (N:Int))/\Ext w2 w'))
     go_region_held3 (fun w'=>w'.cell? ⟨S,0,none⟩=some (.slice ra rn rc)/\w'.cell? ⟨S,1,none⟩=some (.slice ba bn bc)/\w'.cell? ⟨S,2,none⟩=some (.int .i64 (N:Int))/\Ext w2 w')
      (with_reducible exact k8.o _ k7)
      (first
        | (go_at_call 149
           (with_reducible refine(lL (ra:=ra) (rn:=rn) (rc:=rc) (ba:=ba) (bn:=bn) (bc:=bc) (x:=(N:Int)) (yE.o.wK.ext (by first|with_reducible exact k7|with_reducible exact xI|with_reducible exact k7.trans (Ext.alloc _ _))) N b9).mono ?_)
           rw[<-B6.o];rintro e w3 ⟨rfl,wN⟩;have k7:Ext w2 w3:=k7.trans wN
           have IS:=k7.size)
        | fail)
     clear k8 xI;have Z:=ae (HS.o.ext k7);have Ca:=ae (HM.o.trans (Mod.of k7));have xp:=ae (yE.o.ext k7);clear k7 c0 c1 c2 c3 c4 J;have DP:=ae (show aX cs I.q8=wX by rw[Cq.o,B6.o]);by_cases y5:wX<0
     ·have HO:=ae (show o=some ⟨I,1000-G,cs,-1⟩by rw[<-QF.o];exact lm _ Gg.o (by rw[DP.o];exact y5));go_wp2_with fail
      go_ret2
      refine⟨Ca.o,?_⟩;rw[HO.o];exact⟨_,_,_,_,_,_,_,_,rfl,xp.o,by rw[show 1000-(1000-G)=G by omega];exact Z.o⟩
     ·obtain⟨c0,c1,c2,c3,c4,J⟩:=Z.o.cells;rw[Cq.o]at c2;have VB:=ae y5;have EI:=ae (qz Z.o.tb.Be (by rw[<-Z.o.tb.Be.rows.hlen,HT.o.len];omega) wX);rw[Cq.o]at EI;obtain⟨row,o9⟩:=b8 (bP I wX);have zQ:=ae (show bP I (aX cs I.q8)=row by rw[DP.o,o9]);rw[<-o9]at EI;clear o9;go_wp2_with fail;refine EI.o.mono ?_;rintro e w4 ⟨rfl,hx⟩;have OH:=ae (Z.o.ext hx);have CB:=ae (Ca.o.trans (Mod.of hx));have yW:=ae (xp.o.ext hx);clear hx c0 c1 c2 c3 c4 J;by_cases yN:row<0
      ·have HO:=ae (show o=some ⟨I,1000-G,cs,wX⟩by
        rw[<-QF.o,ln _ Gg.o (by rw[DP.o];have:=VB.o;omega) (by rw[zQ.o];exact yN),DP.o])
       go_wp2_with fail
       go_ret2
       refine⟨CB.o,?_⟩;rw[HO.o];exact⟨_,_,_,_,_,_,_,_,rfl,yW.o,by rw[show 1000-(1000-G)=G by omega];exact OH.o⟩
      ·have NT:=ae (show o=(Ar I G row wX).bind fun s=>aJ cost (1000-s.2) s.1 by
        rw[<-QF.o,ls Bj Gg.o (by rw[DP.o];have:=VB.o;omega) (by rw[zQ.o];omega),zQ.o,DP.o])
       have DM:=ae (sV OH.o HT.o hN hm Bj row wX);have W:=ae (show g1=2*(1000-G)+1 from HH.o.meas);go_wp2_with fail;refine DM.o.mono ?_;rintro e w5 ⟨rfl,Dr,Q5,Sy,Q4,RU,TY,RT,OY,O⟩;cases B8:Ar I G row wX with
       | none =>
         rw[B8]at O;obtain⟨t5,u,A8⟩:=O;have HO:=ae (show o=none by rw[NT.o,B8];rfl);have Zb:=ae (show Head w w5 S N m T0 cost o 0 u true t5 Q5 Sy Q4 RU TY RT OY from⟨rfl,CB.o.trans Dr,A8,fun e=>(by cases e),fun _=>HO.o⟩);clear A8 B8 Dr;go_wp2_with fail
         go_roundg 0
         case measure=>have:=W.o;omega
         case rel=>exact⟨u,true,t5,_,_,_,_,_,_,_,Zb⟩
       | some st =>
         obtain⟨t5,u⟩:=st;rw[B8]at O;have Rq:u=G+1/\G<1000/\bo I row wX=some t5:=by
          unfold Ar at B8
          split at B8
          ·cases B8
          ·rw[Option.map_eq_some_iff]at B8;obtain⟨t6,h6,h7⟩:=B8;simp only[Prod.mk.injEq]at h7;obtain⟨rfl,rfl⟩:=h7;exact⟨rfl,by omega,h6⟩
         obtain⟨rfl,hlt5,BG⟩:=Rq;have HO:=ae (show aJ cost (1000-(G+1)) t5=o by rw[NT.o,B8];rfl);have Zb:=ae (show Head w w5 S N m T0 cost o (2*(1000-(G+1))+1) (G+1) false t5 Q5 Sy Q4 RU TY RT OY from⟨rfl,CB.o.trans Dr,O,fun _=>⟨eT HT.o BG,by omega,HO.o⟩,fun e=>(by cases e)⟩);clear O B8 Dr BG;go_wp2_with fail
         go_roundg (2*(1000-(G+1))+1)
         case measure=>have:=W.o;omega
         case rel=>exact⟨G+1,false,t5,_,_,_,_,_,_,_,Zb⟩
  ·have HO:=ae (HH.o.no rfl);go_wp2_with fail
   go_ret2
   refine⟨HH.o.mod,?_⟩;rw[HO.o];exact⟨_,_,_,_,_,_,_,_,_,_,_,rfl,HH.o.st⟩
end
end Go.Proofs.YtalmoolkhcgmmaaGreat
