import Derived.Test.YtalmoolkhcgmmaaGreatNqAltG41
set_option linter.unusedVariables false
set_option linter.unusedSimpArgs false
namespace Go.Proofs.YtalmoolkhcgmmaaGreat
set_option maxHeartbeats 16000000
set_option maxRecDepth 100000
open Go.RowKit
theorem Lh{A:j7}{B:j9}{C:j6}{r:AT}(h:AV A B C=some r):r.X.length<=C.length:=by
 unfold AV at h;cases e1:aJ (bM C.length B.length) 1000 (bF A B C.length)with
 | none=>rw[e1]at h;cases h
 | some p1 =>
   rw[e1]at h;simp only[Option.bind_some]at h
   split at h
   ·cases h;simp
   ·cases e2:br C.length (p1.t,p1.left) B.length with
    | none=>rw[e2]at h;cases h
    | some s =>
      rw[e2]at h;simp only[Option.bind_some]at h;rw[Option.map_eq_some_iff]at h;obtain⟨p2,_,h⟩:=h
      split at h<;>subst h<;>simp only[List.length_take]<;>omega
section
variable{w:World}{a:j8}{na ca:Nat}{b:j8}{nb cb:Nat}{c:j8}{nc cc:Nat}{A:j7}{B:j9}{C:j6}
theorem py(h:Cz w a na ca b nb cb c nc cc A B C):
 Calls Tryz.prog 35 #[C8 a na ca b nb cb c nc cc] w fun e w'=>Ox w' w.heap.size e (eB A B C)/\Ext w w':=by
 have wI:=(Ext.alloc w (bE a na ca b nb cb c nc cc)).trans (Ext.alloc _ Ob);obtain⟨W,hW⟩:=b8 ((w.alloc (bE a na ca b nb cb c nc cc)).alloc Ob);rw[<-hW]at wI;have wM:=ae wI;have H:=ae (h.ext wI);have yA:=ae (show W.heap[w.heap.size+1]?=some (.cells #[.int .i64 0,.slice none 0 0,.slice none 0 0,.slice none 0 0,.int .i64 0,.int .i64 0,.int .i64 0] 56 (0,0))by rw[hW];exact ak _ _ _ e7);have wQ:=ae (show W.heap[w.heap.size]?=some (.cells #[.slice a na ca,.slice b nb cb,.slice c nc cc] 52 (0,0))by rw[hW,bX _ _ _ e7];exact ak _ _ _ rfl);have Bc:=ae (show W.heap.size=w.heap.size+1+1 by rw[hW];simp);have HV:=ae (eg H.o);cases xq:xF A B C
 ·rw[xq]at HV;have HR:=ae (show eB A B C=be 0 by unfold eB;rw[xq];rfl);clear h xq wI;go_enter Tryz.func35,Tryz.ntmps35
  go_upto_region 1 with fail;rw[<-hW];clear hW;have p0:=au wQ.o;have p1:=aH wQ.o;have p2:=aI wQ.o;go_wp2_with fail;refine HV.o.mono ?_;rintro e w1 ⟨rfl,hx⟩;have X1:=ae hx;obtain⟨l0,l1,l2,l3,l4,l5,l6,lf⟩:=xS (X1.o.blk yA.o);clear hx p0 p1 p2;go_wp2_with fail;refine bodyPost_ret (v:=A6 (be 0) none 0 0 none 0 0 none 0 0) (by simp[results,Tryz.results35,go_sem,l0,l1,l2,l3,l4,l5,l6,lf,be]) rfl ⟨?_,(wM.o.trans X1.o).yX (Nat.le_succ _) _ _ _ _ _ _ _⟩;rw[HR.o];exact Ox.zero _ _ _
 ·rw[xq]at HV;obtain⟨r1,r2,r3,r4,r5,r6⟩:=cI h xq;subst r3;have z7:=ae xq;have zQ:=ae (show eB A B C=match AV A B C with|none=>be 4|some r=>if aD bj A B C r=true then r else be 4 by unfold eB;rw[if_pos xq];cases AV A B C<;>rfl);have zW:=ae (fun(w':World) (hx:Ext W w')=>ou (H.o.ext hx) z7.o);obtain⟨o,ho⟩:=b8 (AV A B C);rw[<-ho]at zQ;have Yn:=ae (fun(r:AT) (e:o=some r)=>show r.X.length<=nc by have:=Lh (ho.symm.trans e);rw[show C.length=nc from h.c.hlen]at this;exact this);have En:=ae (fun(w':World) (S:Nat) (vs:List Value) (ra:j8) (rc:Nat) (ba:j8) (bc:Nat) (hx:Ext W w') (hS:W.heap.size<=S) (hw:bI w' S a nb ca b nb cb c nc cc ra nb rc ba nb bc vs (bF A B nc) 0 false)=>ww H.o z7.o hx hS hw);simp only[<-ho]at En;have HTL:=ae (show(bF A B nc).rows.length=nb/\(bF A B nc).basis.length=nb by unfold bF;simp[show A.length=nb from h.a.hlen]);clear h xq ho r4 r5 r6 wI;go_enter Tryz.func35,Tryz.ntmps35
  go_upto_region 1 with fail;rw[<-hW];clear hW;have p0:=au wQ.o;have p1:=aH wQ.o;have p2:=aI wQ.o;go_wp2_with fail;refine HV.o.mono ?_;rintro e w1 ⟨rfl,hx⟩;have X1:=ae hx;clear hx p0 p1 p2;have p0:=au (X1.o.blk wQ.o);have p1:=aH (X1.o.blk wQ.o);have p2:=aI (X1.o.blk wQ.o);go_upto_region 3 with fail
  go_cut [3] (fun s3 wx=>∃(S:Nat) (vs:List Value) (ra:j8) (rc:Nat) (ba:j8) (bc:Nat),s3=.pointer (some ⟨S,0,none⟩)/\b7 (Ext W wx)/\b7 (W.heap.size<=S)/\b7 (bI wx S a nb ca b nb cb c nc cc ra nb rc ba nb bc vs (bF A B nc) 0 false))
  case first =>
   have k7:Ext w1 w1.drew:=Ext.drew w1;have k8:=ae (fun(w':World) (h:Ext w1 w')=>(⟨h.k6 p0,h.k6 p1,h.k6 p2,h⟩:w'.cell? ⟨w.heap.size,0,none⟩=some (.slice a nb ca)/\w'.cell? ⟨w.heap.size,1,none⟩=some (.slice b nb cb)/\w'.cell? ⟨w.heap.size,2,none⟩=some (.slice c nc cc)/\Ext w1 w'));refine wp_region_held_drew (S:=(fun w'=>w'.cell? ⟨w.heap.size,0,none⟩=some (.slice a nb ca)/\w'.cell? ⟨w.heap.size,1,none⟩=some (.slice b nb cb)/\w'.cell? ⟨w.heap.size,2,none⟩=some (.slice c nc cc)/\Ext w1 w')) e8 ?_ (fun k9=>?_)
   ·exact k8.o _ k7
   refine tk 0 ?_;refine tk 1 ?_;refine rd (i:=2) (h:=fun K hK=>?_);go_simp
   (go_at_call 81;refine(zW.o _ (X1.o.trans k7)).mono ?_;rintro e w3 ⟨⟨va,vb,vs,rfl,zS⟩,wS⟩;have k7:=k7.trans wS;obtain⟨a7,n7,c7,rfl,E'⟩:=zS.a.var;obtain⟨a8,n8,c8,rfl,FT⟩:=zS.b.var)
   go_wp2_with fail;refine hK.out _ _ ?_ (fun k9=>?_)
   ·exact k8.o _ k7
   clear hK K
   try simp only[Act.put,sA,sB,sC]
   refine tk 3 ?_;have Dt:=k7.trans (Ext.alloc w3 (.cells #[.slice a nb ca,.slice b nb cb,.slice c nc cc,.slice a7 n7 c7,.slice a8 n8 c8,.int .i64 (nc:Int),.int .i64 0,.bool false] 111));refine rd (i:=4) (h:=fun K hK=>?_);go_simp;refine hK.out _ _ ?_ (fun k9=>?_)
   ·exact k8.o _ Dt
   clear hK K
   try simp only[Act.put,sA,sB,sC]
   refine tk 5 ?_;refine wpAnyH_done e8 ?_ _;have hn7:nb=n7:=by have h1:=zS.Be.rows.hlen;rw[HTL.o.1]at h1;exact h1
   have ZH:nb=n8:=by have h1:=zS.Be.basis.hlen;rw[HTL.o.2]at h1;exact h1
   subst hn7;subst ZH;go_wp2_with fail;go_meet;exact⟨_,vs,a7,c7,a8,c8,rfl,ae (X1.o.trans Dt),ae (X1.o.trans k7).size,ae ⟨ak _ _ _ rfl,(zS.ext (Ext.alloc _ _)).mono (Nat.zero_le _)⟩⟩
  obtain⟨S,vs,ra,rc,ba,bc,rfl,xj,RZ,HW3⟩:=hcut;clear p0 p1 p2;have Yz:=ae (En.o _ S vs ra rc ba bc xj.o RZ.o HW3.o);go_wp2_with fail;refine Yz.o.mono ?_;rintro e w5 ⟨Dr,hs⟩;have X5:=ae (show Ext W w5 from Dr.ext xj.o RZ.o);have Cp:=ae Dr;clear Dr;cases o with
  | none =>
    obtain⟨r,xa,xn,xc,u,U,Z,R,J,O,rfl,Q5,Sy,Q4,RU,TY,RT,OY,t5,n5,BZ⟩:=hs;obtain⟨rs,rX,rY,rr,⟨G,I⟩,rp⟩:=r;have XE:=ae (X5.o.trans (Ext.alloc w5 (ce ⟨rs,rX,rY,rr,(G,I),rp⟩ xa xn xc u U Z R J O)));have NJ:=ae (BZ.ext (Ext.alloc w5 (ce ⟨rs,rX,rY,rr,(G,I),rp⟩ xa xn xc u U Z R J O)));have yu:=ae (show(w5.alloc (ce ⟨rs,rX,rY,rr,(G,I),rp⟩ xa xn xc u U Z R J O)).heap[w5.heap.size]?=some (ce ⟨rs,rX,rY,rr,(G,I),rp⟩ xa xn xc u U Z R J O)from ak _ _ _ rfl);obtain⟨E,hE⟩:=b8 (w5.alloc (ce ⟨rs,rX,rY,rr,(G,I),rp⟩ xa xn xc u U Z R J O));obtain⟨gB,MG⟩:=b8 w5.heap.size;rw[<-hE]at XE NJ;rw[<-hE,<-MG]at yu;have ZO:W.heap.size<=gB:=by rw[MG];exact X5.o.size
    go_upto_region 5 with fail;rw[<-hE,<-MG];clear hE MG BZ;obtain⟨l0,l1,l2,c0,c1,c2,c3,c4,cf⟩:=NJ.o.cells;obtain⟨q0,q1,q2,q3,q4,q5,q6,qf⟩:=xS yu.o;have hne:gB≠S:=fun e=>jk yu.o NJ.o.box (by decide) e
    have Tg:=lt_of_block yu.o;have yp:=lt_of_block NJ.o.box;go_upto_region 6 with fail;obtain⟨w7,CX⟩:=b8 (E.setCell ⟨gB,6,none⟩ (.int .i64 (n5:Int)));have X7:=ae (show Ext W w7 by rw[CX];exact XE.o.setCell (p:=⟨gB,6,none⟩) ZO _);have c7:w7.cell? ⟨S,7,none⟩=some (.bool true):=by
     have zd:w7.heap[S]?=E.heap[S]?:=by rw[CX];exact heap_setCell_other _ _ _ _ (fun e=>hne e.symm)
     rw[cell_of_row w7 S _ _ _ _ (zd.trans NJ.o.box)];rfl
    rw[<-CX];clear CX l0 l1 l2 c0 c1 c2 c3 c4 cf q0 q1 q2 q3 q4 q5 q6 qf;obtain⟨l0,l1,l2,l3,l4,l5,l6,lf⟩:=xS (X7.o.blk yA.o);go_wp2_with fail;refine bodyPost_ret (v:=A6 (be 4) none 0 0 none 0 0 none 0 0) (by simp[results,Tryz.results35,go_sem,l0,l1,l2,l3,l4,l5,l6,lf,be]) rfl ⟨?_,(wM.o.trans X7.o).yX (Nat.le_succ _) _ _ _ _ _ _ _⟩;rw[zQ.o];exact Ox.zero _ _ _
  | some r =>
    obtain⟨xa,xn,xc,u,U,Z,R,J,O,rfl,Cv,Q5,Sy,Q4,RU,TY,RT,OY,t5,n5,BZ,Ro⟩:=hs;obtain⟨rs,rX,rY,rr,⟨G,I⟩,rp⟩:=r;simp only at Ro;have XE:=ae (X5.o.trans (Ext.alloc w5 (ce ⟨rs,rX,rY,rr,(G,I),0⟩ xa xn xc u U Z R J O)));have NJ:=ae (BZ.ext (Ext.alloc w5 (ce ⟨rs,rX,rY,rr,(G,I),0⟩ xa xn xc u U Z R J O)));have HLE:=ae (Cv.ext (Ext.alloc w5 (ce ⟨rs,rX,rY,rr,(G,I),0⟩ xa xn xc u U Z R J O)));have yu:=ae (show(w5.alloc (ce ⟨rs,rX,rY,rr,(G,I),0⟩ xa xn xc u U Z R J O)).heap[w5.heap.size]?=some (ce ⟨rs,rX,rY,rr,(G,I),0⟩ xa xn xc u U Z R J O)from ak _ _ _ rfl);have Ep:=ae (show w5.heap.size<(w5.alloc (ce ⟨rs,rX,rY,rr,(G,I),0⟩ xa xn xc u U Z R J O)).heap.size by simp);have HL5:=ae Cv;obtain⟨E,hE⟩:=b8 (w5.alloc (ce ⟨rs,rX,rY,rr,(G,I),0⟩ xa xn xc u U Z R J O));obtain⟨gB,MG⟩:=b8 w5.heap.size;have HEX:=ae (show Ext w5 E by rw[hE];exact Ext.alloc _ _);rw[<-hE]at XE NJ HLE Ep;rw[<-hE,<-MG]at yu;have ZO:W.heap.size<=gB:=by rw[MG];exact X5.o.size
    have HGS:=ae MG;go_upto_region 5 with fail;rw[<-hE,<-MG];clear hE MG BZ Cv;obtain⟨l0,l1,l2,c0,c1,c2,c3,c4,cf⟩:=NJ.o.cells;obtain⟨q0,q1,q2,q3,q4,q5,q6,qf⟩:=xS yu.o;have hne:gB≠S:=fun e=>jk yu.o NJ.o.box (by decide) e
    have Tg:=lt_of_block yu.o;have yp:=lt_of_block NJ.o.box;rw[Ro]at c3;clear Ro;go_upto_region 6 with fail;obtain⟨w7,CX⟩:=b8 (E.setCell ⟨gB,6,none⟩ (.int .i64 rp));have X7:=ae (show Ext W w7 by rw[CX];exact XE.o.setCell (p:=⟨gB,6,none⟩) ZO _);have c7:w7.cell? ⟨S,7,none⟩=some (.bool false):=by
     have zd:w7.heap[S]?=E.heap[S]?:=by rw[CX];exact heap_setCell_other _ _ _ _ (fun e=>hne e.symm)
     rw[cell_of_row w7 S _ _ _ _ (zd.trans NJ.o.box)];rfl
    have Cb:=ae (show w7.heap[gB]?=some (.cells #[.int .i64 rs,.slice xa xn xc,.slice u U Z,.slice R J O,.int .i64 G,.int .i64 I,.int .i64 rp] 56 (0,0))by
     rw[CX,heap_setCell_same E gB 6 _ _ (.int .i64 rp) yu.o];rfl)
    have HK7:=ae (show∀k,k<w5.heap.size->w7.heap[k]?=w5.heap[k]? from fun k hk=>by
     rw[CX];exact(heap_setCell_other _ _ _ _ (by have:=HGS.o;show k≠gB;omega)).trans (HEX.o.block k hk))
    have HL7:=ae (show Bq w7 W.heap.size xa xn xc u U Z R J O ⟨rs,rX,rY,rr,(G,I),rp⟩from(by
     have h1:=HL5.o.keep (w':=w7) (by rw[CX];have:=HEX.o.size;simpa using this) (fun k hk k7=>by rw[CX];exact(heap_setCell_other _ _ _ _ (by have:=HGS.o;show k≠gB;omega)).trans (HEX.o.block k k7));have h2:=h1.mono (base':=W.heap.size) xj.o.size
     exact⟨h2.x,h2.y,h2.A5⟩))
    rw[<-CX];clear CX l0 l1 l2 c0 c1 c2 c3 c4 cf q0 q1 q2 q3 q4 q5 q6 qf;have p0:=au (X7.o.blk wQ.o);have p1:=aH (X7.o.blk wQ.o);have p2:=aI (X7.o.blk wQ.o);obtain⟨q0,q1,q2,q3,q4,q5,q6,qf⟩:=xS Cb.o;have N6:=ae (wk (H.o.ext X7.o) HL7.o.here z7.o);obtain⟨ck,Kb⟩:=b8 (aD bj A B C ⟨rs,rX,rY,rr,(G,I),rp⟩);have NL:=ae (show eB A B C=if ck=true then⟨rs,rX,rY,rr,(G,I),rp⟩ else be 4 by rw[zQ.o,Kb]);rw[<-Kb]at N6;clear Kb;go_wp2_with fail;refine N6.o.mono ?_;rintro e w8 ⟨rfl,hx⟩;have X8:=ae (X7.o.trans hx);have Hf:=ae (HL7.o.ext hx);have UO:=ae (hx.blk Cb.o);have hs57:w5.heap.size<=w7.heap.size:=by have h1:=lt_of_block Cb.o;have h2:=HGS.o;omega
    have HK8:=ae (show∀k,k<w5.heap.size->w8.heap[k]?=w5.heap[k]? from fun k hk=>(hx.block k b9).trans (HK7.o k hk));have hs58:w5.heap.size<=w8.heap.size:=by have:=hx.size;omega
    clear hx p0 p1 p2 q0 q1 q2 q3 q4 q5 q6 qf c7;cases ck
    ·obtain⟨l0,l1,l2,l3,l4,l5,l6,lf⟩:=xS (X8.o.blk yA.o);go_wp2_with fail;refine bodyPost_ret (v:=A6 (be 4) none 0 0 none 0 0 none 0 0) (by simp[results,Tryz.results35,go_sem,l0,l1,l2,l3,l4,l5,l6,lf,be]) rfl ⟨?_,(wM.o.trans X8.o).yX (Nat.le_succ _) _ _ _ _ _ _ _⟩;rw[NL.o];exact Ox.zero _ _ _
    ·obtain⟨q0,q1,q2,q3,q4,q5,q6,qf⟩:=xS UO.o;have hxn:xn<=1099511627776:=by
      have h1:=Hf.o.here.x.hlen;have h2:=Yn.o _ rfl;simp only at h1 h2;omega
     have Zh:=ae (mb Hf.o.here.x hxn);go_wp2_with fail;refine Zh.o.mono ?_;rintro e w9 ⟨⟨v9,rfl,J7⟩,hx⟩;obtain⟨a9,n9,c9,rfl,Kr⟩:=J7.var;have X9:=ae (X8.o.trans hx);have JU:=ae (Hf.o.ext hx);have Jn:=ae (hx.blk UO.o);have Y7:=ae (show∀k,k<w5.heap.size->w9.heap[k]?=w5.heap[k]? from fun k hk=>(hx.block k b9).trans (HK8.o k hk));have hs59:w5.heap.size<=w9.heap.size:=by have:=hx.size;omega
     have Ew:=ae J7;have hlt9:=lt_of_block Jn.o;have S6:=X8.o.size;clear J7 q0 q1 q2 q3 q4 q5 q6 qf;obtain⟨q0,q1,q2,q3,q4,q5,q6,qf⟩:=xS Jn.o;have hg8:=lt_of_block UO.o;clear hx;go_upto_region 9 with fail;obtain⟨wA,SY⟩:=b8 (w9.setCell ⟨gB,1,none⟩ (.slice a9 n9 c9));have XA:=ae (show Ext W wA by rw[SY];exact X9.o.setCell (p:=⟨gB,1,none⟩) ZO _)
     have QV:=ae (show wA.heap[gB]?=some (.cells #[.int .i64 rs,.slice a9 n9 c9,.slice u U Z,.slice R J O,.int .i64 G,.int .i64 I,.int .i64 rp] 56 (0,0))by
      rw[SY,heap_setCell_same w9 gB 1 _ _ (.slice a9 n9 c9) Jn.o];rfl)
     have Uy:=ae (show l8 wA w8.heap.size (.slice a9 n9 c9) rX by
      rw[SY];exact Ew.o.keep fun k hk=>heap_setCell_other _ _ _ _ (by have:=(Ew.o.lt k hk).1;show k≠gB;omega))
     have OO:=ae (show∀k,k<w5.heap.size->wA.heap[k]?=w5.heap[k]? from fun k hk=>by
      rw[SY];exact(heap_setCell_other _ _ _ _ (by have:=HGS.o;show k≠gB;omega)).trans (Y7.o k hk))
     have WB:w5.heap.size<=wA.heap.size:=by rw[SY];simpa using hs59
     rw[<-SY];clear SY q0 q1 q2 q3 q4 q5 q6 qf;obtain⟨q0,q1,q2,q3,q4,q5,q6,qf⟩:=xS QV.o;obtain⟨l0,l1,l2,l3,l4,l5,l6,lf⟩:=xS (XA.o.blk yA.o);have DT:=Bc.o;have CY:=xj.o.size;go_wp2_with fail;refine bodyPost_ret (v:=A6 ⟨rs,rX,rY,rr,(G,I),rp⟩ a9 n9 c9 u U Z R J O) (by simp[results,Tryz.results35,go_sem,l0,l1,l2,l3,l4,l5,l6,lf]) rfl ⟨?_,(wM.o.trans XA.o).yX (Nat.le_succ _) _ _ _ _ _ _ _⟩;rw[NL.o];refine⟨a9,n9,c9,u,U,Z,R,J,O,rfl,?_,?_,?_⟩
     ·exact(Uy.o.keep fun i hi=>bL _ (j4 ((Uy.o.lt i hi).1)) _ _ _ _ _ _ _).BD b9
     ·exact(HL5.o.y.keep (by simpa using WB) fun k hk k7=>(bL _ b9 _ _ _ _ _ _ _).trans (OO.o k k7)).mono b9
     ·exact(HL5.o.A5.keep (by simpa using WB) fun k hk k7=>(bL _ b9 _ _ _ _ _ _ _).trans (OO.o k k7)).mono b9
end
end Go.Proofs.YtalmoolkhcgmmaaGreat
