import Derived.Test.YtdadoignenffgaaGreatDoorSvAllG43
set_option linter.unusedVariables false
set_option linter.unusedSimpArgs false
namespace Go.Proofs.YtdadoignenffgaaGreatDoor
set_option maxHeartbeats 16000000
set_option maxRecDepth 100000
open Go.RowKit
theorem I'{A:j5}{B:j7}{C:j4}{r:yu}(h:yZ A B C=some r):r.X.length<=C.length:=by
 unfold yZ at h;cases e1:aO (dI C.length B.length) 1000 (bD A B C.length)with
 | none=>rw[e1]at h;cases h
 | some p1 =>
   rw[e1]at h;simp only[Option.bind_some]at h
   split at h
   ·cases h;simp
   ·cases e2:aY C.length (p1.t,p1.left) B.length with
    | none=>rw[e2]at h;cases h
    | some s =>
      rw[e2]at h;simp only[Option.bind_some]at h;rw[Option.map_eq_some_iff]at h;obtain⟨p2,_,h⟩:=h
      split at h<;>subst h<;>simp only[List.length_take]<;>omega
section
variable{w:World}{a:j6}{na ca:Nat}{b:j6}{nb cb:Nat}{c:j6}{nc cc:Nat}{A:j5}{B:j7}{C:j4}
theorem nZ(h:Bf w a na ca b nb cb c nc cc A B C):
 Calls Tryz.prog 47 #[Al a na ca b nb cb c nc cc] w fun e w'=>LP w' w.heap.size e (ev A B C)/\Ext w w':=by
 have uS:=(Ext.alloc w (aV a na ca b nb cb c nc cc)).trans (Ext.alloc _ LB);obtain⟨W,hW⟩:=b9 ((w.alloc (aV a na ca b nb cb c nc cc)).alloc LB);rw[<-hW]at uS;have uV:=ae uS;have H:=ae (h.ext uS);have wL:=ae (show W.heap[w.heap.size+1]?=some (.cells #[.int .i64 0,.slice none 0 0,.slice none 0 0,.slice none 0 0,.int .i64 0,.int .i64 0,.int .i64 0] 72 (0,0))by rw[hW];exact aj _ _ _ e8);have uW:=ae (show W.heap[w.heap.size]?=some (.cells #[.slice a na ca,.slice b nb cb,.slice c nc cc] 68 (0,0))by rw[hW,bU _ _ _ e8];exact aj _ _ _ rfl);have zx:=ae (show W.heap.size=w.heap.size+1+1 by rw[hW];simp);have HV:=ae (dO H.o);cases wj:vG A B C
 ·rw[wj]at HV;have HR:=ae (show ev A B C=aM 0 by unfold ev;rw[wj];rfl);clear h wj uS;go_enter Tryz.func47,Tryz.ntmps47
  go_upto_region 1 with fail;rw[<-hW];clear hW;have p0:=al uW.o;have p1:=au uW.o;have p2:=av uW.o;go_wp2_with fail;refine HV.o.mono ?_;rintro e w1 ⟨rfl,hx⟩;have X1:=ae hx;obtain⟨l0,l1,l2,l3,l4,l5,l6,lf⟩:=vH (X1.o.blk wL.o);clear hx p0 p1 p2;go_wp2_with fail;refine bodyPost_ret (v:=zg (aM 0) none 0 0 none 0 0 none 0 0) (by simp[results,Tryz.results47,go_sem,l0,l1,l2,l3,l4,l5,l6,lf,aM]) rfl ⟨?_,(uV.o.trans X1.o).wY (Nat.le_succ _) _ _ _ _ _ _ _⟩;rw[HR.o];exact LP.zero _ _ _
 ·rw[wj]at HV;obtain⟨r1,r2,r3,r4,r5,r6⟩:=co h wj;subst r3;have xN:=ae wj;have zD:=ae (show ev A B C=match yZ A B C with|none=>aM 4|some r=>if aG aX A B C r=true then r else aM 4 by unfold ev;rw[if_pos wj];cases yZ A B C<;>rfl);have xh:=ae (fun(w':World) (hx:Ext W w')=>mL (H.o.ext hx) xN.o);obtain⟨o,ho⟩:=b9 (yZ A B C);rw[<-ho]at zD;have QR:=ae (fun(r:yu) (e:o=some r)=>show r.X.length<=nc by have:=I' (ho.symm.trans e);rw[show C.length=nc from h.c.hlen]at this;exact this);have CJ:=ae (fun(w':World) (S:Nat) (vs:List Value) (ra:j6) (rc:Nat) (ba:j6) (bc:Nat) (hx:Ext W w') (hS:W.heap.size<=S) (hw:bz w' S a nb ca b nb cb c nc cc ra nb rc ba nb bc vs (bD A B nc) 0 false)=>uI H.o xN.o hx hS hw);simp only[<-ho]at CJ;have Gf:=ae (show(bD A B nc).rows.length=nb/\(bD A B nc).basis.length=nb by unfold bD;simp[show A.length=nb from h.a.hlen]);clear h wj ho r4 r5 r6 uS;go_enter Tryz.func47,Tryz.ntmps47
  go_upto_region 1 with fail;rw[<-hW];clear hW;have p0:=al uW.o;have p1:=au uW.o;have p2:=av uW.o;go_wp2_with fail;refine HV.o.mono ?_;rintro e w1 ⟨rfl,hx⟩;have X1:=ae hx;clear hx p0 p1 p2;have p0:=al (X1.o.blk uW.o);have p1:=au (X1.o.blk uW.o);have p2:=av (X1.o.blk uW.o);go_upto_region 3 with fail
  go_cut [3] (fun s3 wx=>∃(S:Nat) (vs:List Value) (ra:j6) (rc:Nat) (ba:j6) (bc:Nat),s3=.pointer (some ⟨S,0,none⟩)/\b7 (Ext W wx)/\b7 (W.heap.size<=S)/\b7 (bz wx S a nb ca b nb cb c nc cc ra nb rc ba nb bc vs (bD A B nc) 0 false))
  case first =>
   have k7:Ext w1 w1.drew:=Ext.drew w1;have k8:=ae (fun(w':World) (h:Ext w1 w')=>(⟨h.j9 p0,h.j9 p1,h.j9 p2,h⟩:w'.cell? ⟨w.heap.size,0,none⟩=some (.slice a nb ca)/\w'.cell? ⟨w.heap.size,1,none⟩=some (.slice b nb cb)/\w'.cell? ⟨w.heap.size,2,none⟩=some (.slice c nc cc)/\Ext w1 w'));refine wp_region_held_drew (S:=(fun w'=>w'.cell? ⟨w.heap.size,0,none⟩=some (.slice a nb ca)/\w'.cell? ⟨w.heap.size,1,none⟩=some (.slice b nb cb)/\w'.cell? ⟨w.heap.size,2,none⟩=some (.slice c nc cc)/\Ext w1 w')) e9 ?_ (fun k9=>?_)
   ·exact k8.o _ k7
   refine tk 0 ?_;refine tk 1 ?_;refine rd (i:=2) (h:=fun K hK=>?_);go_simp
   (go_at_call 106;refine(xh.o _ (X1.o.trans k7)).mono ?_;rintro e w3 ⟨⟨va,vb,vs,rfl,xt⟩,vj⟩;have k7:=k7.trans vj;obtain⟨a7,n7,c7,rfl,DP⟩:=xt.a.var;obtain⟨a8,n8,c8,rfl,Eg⟩:=xt.b.var)
   go_wp2_with fail;refine hK.out _ _ ?_ (fun k9=>?_)
   ·exact k8.o _ k7
   clear hK K
   try simp only[Act.put,sA,sB,sC]
   refine tk 3 ?_;have Bv:=k7.trans (Ext.alloc w3 (.cells #[.slice a nb ca,.slice b nb cb,.slice c nc cc,.slice a7 n7 c7,.slice a8 n8 c8,.int .i64 (nc:Int),.int .i64 0,.bool false] 119));refine rd (i:=4) (h:=fun K hK=>?_);go_simp;refine hK.out _ _ ?_ (fun k9=>?_)
   ·exact k8.o _ Bv
   clear hK K
   try simp only[Act.put,sA,sB,sC]
   refine tk 5 ?_;refine wpAnyH_done e9 ?_ _;have hn7:nb=n7:=by have h1:=xt.zB.rows.hlen;rw[Gf.o.1]at h1;exact h1
   have Vt:nb=n8:=by have h1:=xt.zB.basis.hlen;rw[Gf.o.2]at h1;exact h1
   subst hn7;subst Vt;go_wp2_with fail;go_meet;exact⟨_,vs,a7,c7,a8,c8,rfl,ae (X1.o.trans Bv),ae (X1.o.trans k7).size,ae ⟨aj _ _ _ rfl,(xt.ext (Ext.alloc _ _)).mono (Nat.zero_le _)⟩⟩
  obtain⟨S,vs,ra,rc,ba,bc,rfl,vk,R8,HW3⟩:=hcut;clear p0 p1 p2;have Uu:=ae (CJ.o _ S vs ra rc ba bc vk.o R8.o HW3.o);go_wp2_with fail;refine Uu.o.mono ?_;rintro e w5 ⟨BI,hs⟩;have X5:=ae (show Ext W w5 from BI.ext vk.o R8.o);have AU:=ae BI;clear BI;cases o with
  | none =>
    obtain⟨r,xa,xn,xc,ya,U,Z,Q,J,O,rfl,Of,Ps,Oe,OX,QJ,OW,Mf,t5,n5,DE⟩:=hs;obtain⟨rs,rX,rY,rr,⟨G,I⟩,rp⟩:=r;have XE:=ae (X5.o.trans (Ext.alloc w5 (bH ⟨rs,rX,rY,rr,(G,I),rp⟩ xa xn xc ya U Z Q J O)));have K2:=ae (DE.ext (Ext.alloc w5 (bH ⟨rs,rX,rY,rr,(G,I),rp⟩ xa xn xc ya U Z Q J O)));have wE:=ae (show(w5.alloc (bH ⟨rs,rX,rY,rr,(G,I),rp⟩ xa xn xc ya U Z Q J O)).heap[w5.heap.size]?=some (bH ⟨rs,rX,rY,rr,(G,I),rp⟩ xa xn xc ya U Z Q J O)from aj _ _ _ rfl);obtain⟨E,hE⟩:=b9 (w5.alloc (bH ⟨rs,rX,rY,rr,(G,I),rp⟩ xa xn xc ya U Z Q J O));obtain⟨gB,LI⟩:=b9 w5.heap.size;rw[<-hE]at XE K2;rw[<-hE,<-LI]at wE;have VB:W.heap.size<=gB:=by rw[LI];exact X5.o.size
    go_upto_region 5 with fail;rw[<-hE,<-LI];clear hE LI DE;obtain⟨l0,l1,l2,c0,c1,c2,c3,c4,cf⟩:=K2.o.cells;obtain⟨q0,q1,q2,q3,q4,q5,q6,qf⟩:=vH wE.o;have hne:gB≠S:=fun e=>iv wE.o K2.o.box (by decide) e
    have XK:=lt_of_block wE.o;have wm:=lt_of_block K2.o.box;go_upto_region 6 with fail;obtain⟨w7,Am⟩:=b9 (E.setCell ⟨gB,6,none⟩ (.int .i64 (n5:Int)));have X7:=ae (show Ext W w7 by rw[Am];exact XE.o.setCell (p:=⟨gB,6,none⟩) VB _);have c7:w7.cell? ⟨S,7,none⟩=some (.bool true):=by
     have xS:w7.heap[S]?=E.heap[S]?:=by rw[Am];exact heap_setCell_other _ _ _ _ (fun e=>hne e.symm)
     rw[cell_of_row w7 S _ _ _ _ (xS.trans K2.o.box)];rfl
    rw[<-Am];clear Am l0 l1 l2 c0 c1 c2 c3 c4 cf q0 q1 q2 q3 q4 q5 q6 qf;obtain⟨l0,l1,l2,l3,l4,l5,l6,lf⟩:=vH (X7.o.blk wL.o);go_wp2_with fail;refine bodyPost_ret (v:=zg (aM 4) none 0 0 none 0 0 none 0 0) (by simp[results,Tryz.results47,go_sem,l0,l1,l2,l3,l4,l5,l6,lf,aM]) rfl ⟨?_,(uV.o.trans X7.o).wY (Nat.le_succ _) _ _ _ _ _ _ _⟩;rw[zD.o];exact LP.zero _ _ _
  | some r =>
    obtain⟨xa,xn,xc,ya,U,Z,Q,J,O,rfl,AW,Of,Ps,Oe,OX,QJ,OW,Mf,t5,n5,DE,OA⟩:=hs;obtain⟨rs,rX,rY,rr,⟨G,I⟩,rp⟩:=r;simp only at OA;have XE:=ae (X5.o.trans (Ext.alloc w5 (bH ⟨rs,rX,rY,rr,(G,I),0⟩ xa xn xc ya U Z Q J O)));have K2:=ae (DE.ext (Ext.alloc w5 (bH ⟨rs,rX,rY,rr,(G,I),0⟩ xa xn xc ya U Z Q J O)));have IC:=ae (AW.ext (Ext.alloc w5 (bH ⟨rs,rX,rY,rr,(G,I),0⟩ xa xn xc ya U Z Q J O)));have wE:=ae (show(w5.alloc (bH ⟨rs,rX,rY,rr,(G,I),0⟩ xa xn xc ya U Z Q J O)).heap[w5.heap.size]?=some (bH ⟨rs,rX,rY,rr,(G,I),0⟩ xa xn xc ya U Z Q J O)from aj _ _ _ rfl);have CL:=ae (show w5.heap.size<(w5.alloc (bH ⟨rs,rX,rY,rr,(G,I),0⟩ xa xn xc ya U Z Q J O)).heap.size by simp);have ZZ:=ae AW;obtain⟨E,hE⟩:=b9 (w5.alloc (bH ⟨rs,rX,rY,rr,(G,I),0⟩ xa xn xc ya U Z Q J O));obtain⟨gB,LI⟩:=b9 w5.heap.size;have HEX:=ae (show Ext w5 E by rw[hE];exact Ext.alloc _ _);rw[<-hE]at XE K2 IC CL;rw[<-hE,<-LI]at wE;have VB:W.heap.size<=gB:=by rw[LI];exact X5.o.size
    have H9:=ae LI;go_upto_region 5 with fail;rw[<-hE,<-LI];clear hE LI DE AW;obtain⟨l0,l1,l2,c0,c1,c2,c3,c4,cf⟩:=K2.o.cells;obtain⟨q0,q1,q2,q3,q4,q5,q6,qf⟩:=vH wE.o;have hne:gB≠S:=fun e=>iv wE.o K2.o.box (by decide) e
    have XK:=lt_of_block wE.o;have wm:=lt_of_block K2.o.box;rw[OA]at c3;clear OA;go_upto_region 6 with fail;obtain⟨w7,Am⟩:=b9 (E.setCell ⟨gB,6,none⟩ (.int .i64 rp));have X7:=ae (show Ext W w7 by rw[Am];exact XE.o.setCell (p:=⟨gB,6,none⟩) VB _);have c7:w7.cell? ⟨S,7,none⟩=some (.bool false):=by
     have xS:w7.heap[S]?=E.heap[S]?:=by rw[Am];exact heap_setCell_other _ _ _ _ (fun e=>hne e.symm)
     rw[cell_of_row w7 S _ _ _ _ (xS.trans K2.o.box)];rfl
    have BE:=ae (show w7.heap[gB]?=some (.cells #[.int .i64 rs,.slice xa xn xc,.slice ya U Z,.slice Q J O,.int .i64 G,.int .i64 I,.int .i64 rp] 72 (0,0))by
     rw[Am,heap_setCell_same E gB 6 _ _ (.int .i64 rp) wE.o];rfl)
    have HK7:=ae (show∀k,k<w5.heap.size->w7.heap[k]?=w5.heap[k]? from fun k hk=>by
     rw[Am];exact(heap_setCell_other _ _ _ _ (by have:=H9.o;show k≠gB;omega)).trans (HEX.o.block k hk))
    have HL7:=ae (show zN w7 W.heap.size xa xn xc ya U Z Q J O ⟨rs,rX,rY,rr,(G,I),rp⟩from(by
     have h1:=ZZ.o.keep (w':=w7) (by rw[Am];have:=HEX.o.size;simpa using this) (fun k hk k7=>by rw[Am];exact(heap_setCell_other _ _ _ _ (by have:=H9.o;show k≠gB;omega)).trans (HEX.o.block k k7));have h2:=h1.mono (base':=W.heap.size) vk.o.size
     exact⟨h2.x,h2.y,h2.zf⟩))
    rw[<-Am];clear Am l0 l1 l2 c0 c1 c2 c3 c4 cf q0 q1 q2 q3 q4 q5 q6 qf;have p0:=al (X7.o.blk uW.o);have p1:=au (X7.o.blk uW.o);have p2:=av (X7.o.blk uW.o);obtain⟨q0,q1,q2,q3,q4,q5,q6,qf⟩:=vH BE.o;have Lu:=ae (uA (H.o.ext X7.o) HL7.o.here xN.o);obtain⟨ck,Qh⟩:=b9 (aG aX A B C ⟨rs,rX,rY,rr,(G,I),rp⟩);have K6:=ae (show ev A B C=if ck=true then⟨rs,rX,rY,rr,(G,I),rp⟩ else aM 4 by rw[zD.o,Qh]);rw[<-Qh]at Lu;clear Qh;go_wp2_with fail;refine Lu.o.mono ?_;rintro e w8 ⟨rfl,hx⟩;have X8:=ae (X7.o.trans hx);have Rj:=ae (HL7.o.ext hx);have Mc:=ae (hx.blk BE.o);have hs57:w5.heap.size<=w7.heap.size:=by have h1:=lt_of_block BE.o;have h2:=H9.o;omega
    have HK8:=ae (show∀k,k<w5.heap.size->w8.heap[k]?=w5.heap[k]? from fun k hk=>(hx.block k e7).trans (HK7.o k hk));have hs58:w5.heap.size<=w8.heap.size:=by have:=hx.size;omega
    clear hx p0 p1 p2 q0 q1 q2 q3 q4 q5 q6 qf c7;cases ck
    ·obtain⟨l0,l1,l2,l3,l4,l5,l6,lf⟩:=vH (X8.o.blk wL.o);go_wp2_with fail;refine bodyPost_ret (v:=zg (aM 4) none 0 0 none 0 0 none 0 0) (by simp[results,Tryz.results47,go_sem,l0,l1,l2,l3,l4,l5,l6,lf,aM]) rfl ⟨?_,(uV.o.trans X8.o).wY (Nat.le_succ _) _ _ _ _ _ _ _⟩;rw[K6.o];exact LP.zero _ _ _
    ·obtain⟨q0,q1,q2,q3,q4,q5,q6,qf⟩:=vH Mc.o;have hxn:xn<=1099511627776:=by
      have h1:=Rj.o.here.x.hlen;have h2:=QR.o _ rfl;simp only at h1 h2;omega
     have HCP:=ae (kT Rj.o.here.x hxn);go_wp2_with fail;refine HCP.o.mono ?_;rintro e w9 ⟨⟨v9,rfl,Im⟩,hx⟩;obtain⟨a9,n9,c9,rfl,LZ⟩:=Im.var;have X9:=ae (X8.o.trans hx);have Sb:=ae (Rj.o.ext hx);have Ih:=ae (hx.blk Mc.o);have U2:=ae (show∀k,k<w5.heap.size->w9.heap[k]?=w5.heap[k]? from fun k hk=>(hx.block k e7).trans (HK8.o k hk));have Xa:w5.heap.size<=w9.heap.size:=by have:=hx.size;omega
     have Dz:=ae Im;have hlt9:=lt_of_block Ih.o;have PM:=X8.o.size;clear Im q0 q1 q2 q3 q4 q5 q6 qf;obtain⟨q0,q1,q2,q3,q4,q5,q6,qf⟩:=vH Ih.o;have hg8:=lt_of_block Mc.o;clear hx;go_upto_region 9 with fail;obtain⟨wA,PF⟩:=b9 (w9.setCell ⟨gB,1,none⟩ (.slice a9 n9 c9));have XA:=ae (show Ext W wA by rw[PF];exact X9.o.setCell (p:=⟨gB,1,none⟩) VB _)
     have HBA:=ae (show wA.heap[gB]?=some (.cells #[.int .i64 rs,.slice a9 n9 c9,.slice ya U Z,.slice Q J O,.int .i64 G,.int .i64 I,.int .i64 rp] 72 (0,0))by
      rw[PF,heap_setCell_same w9 gB 1 _ _ (.slice a9 n9 c9) Ih.o];rfl)
     have HOA:=ae (show l9 wA w8.heap.size (.slice a9 n9 c9) rX by
      rw[PF];exact Dz.o.keep fun k hk=>heap_setCell_other _ _ _ _ (by have:=(Dz.o.lt k hk).1;show k≠gB;omega))
     have L1:=ae (show∀k,k<w5.heap.size->wA.heap[k]?=w5.heap[k]? from fun k hk=>by
      rw[PF];exact(heap_setCell_other _ _ _ _ (by have:=H9.o;show k≠gB;omega)).trans (U2.o k hk))
     have SZ:w5.heap.size<=wA.heap.size:=by rw[PF];simpa using Xa
     rw[<-PF];clear PF q0 q1 q2 q3 q4 q5 q6 qf;obtain⟨q0,q1,q2,q3,q4,q5,q6,qf⟩:=vH HBA.o;obtain⟨l0,l1,l2,l3,l4,l5,l6,lf⟩:=vH (XA.o.blk wL.o);have B9:=zx.o;have Cs:=vk.o.size;go_wp2_with fail;refine bodyPost_ret (v:=zg ⟨rs,rX,rY,rr,(G,I),rp⟩ a9 n9 c9 ya U Z Q J O) (by simp[results,Tryz.results47,go_sem,l0,l1,l2,l3,l4,l5,l6,lf]) rfl ⟨?_,(uV.o.trans XA.o).wY (Nat.le_succ _) _ _ _ _ _ _ _⟩;rw[K6.o];refine⟨a9,n9,c9,ya,U,Z,Q,J,O,rfl,?_,?_,?_⟩
     ·exact(HOA.o.keep fun i hi=>bC _ (j1 ((HOA.o.lt i hi).1)) _ _ _ _ _ _ _).zV e7
     ·exact(ZZ.o.y.keep (by simpa using SZ) fun k hk k7=>(bC _ e7 _ _ _ _ _ _ _).trans (L1.o k k7)).mono e7
     ·exact(ZZ.o.zf.keep (by simpa using SZ) fun k hk k7=>(bC _ e7 _ _ _ _ _ _ _).trans (L1.o k k7)).mono e7
end
end Go.Proofs.YtdadoignenffgaaGreatDoor
