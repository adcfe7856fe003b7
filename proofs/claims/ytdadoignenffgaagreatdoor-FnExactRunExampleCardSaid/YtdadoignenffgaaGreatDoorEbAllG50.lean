import Derived.Test.YtdadoignenffgaaGreatDoorEbAllG49
set_option linter.unusedVariables false
set_option linter.unusedSimpArgs false
namespace Go.Proofs.YtdadoignenffgaaGreatDoor
set_option maxHeartbeats 16000000
set_option maxRecDepth 100000
open Go.RowKit
theorem Ni{A:j5}{B:j7}{C:j4}{r:BQ}(h:Ct A B C=some r):r.X.length<=C.length:=by
 unfold Ct at h;cases e1:aY (ee C.length B.length) 1000 (bV A B C.length)with
 | none=>rw[e1]at h;cases h
 | some p1 =>
   rw[e1]at h;simp only[G3]at h
   split at h
   ·cases h;simp
   ·cases e2:bv C.length (p1.t,p1.left) B.length with
    | none=>rw[e2]at h;cases h
    | some s =>
      rw[e2]at h;simp only[G3]at h;rw[U']at h;obtain⟨p2,_,h⟩:=h
      split at h<;>subst h<;>simp only[FX]<;>omega
section
variable{w:World}{a:j6}{na ca:Nat}{b:j6}{nb cb:Nat}{c:j6}{nc cc:Nat}{A:j5}{B:j7}{C:j4}
theorem qY(h:EA w a na ca b nb cb c nc cc A B C):
 Calls Tryz.prog 47 #[DD a na ca b nb cb c nc cc] w fun e w'=>Qr w' w.heap.size e (fd A B C)/\Ext w w':=by
 have y9:=(Ext.alloc w (bj a na ca b nb cb c nc cc)).trans (Ext.alloc _ Qc);obtain⟨W,hW⟩:=b9 ((w.alloc (bj a na ca b nb cb c nc cc)).alloc Qc);rw[<-hW]at y9;have y7:=ae y9;have H:=ae (h.ext y9);have Af:=ae (show W.heap[w.heap.size+1]?=some (.cells #[.int .i64 0,.slice none 0 0,.slice none 0 0,.slice none 0 0,.int .i64 0,.int .i64 0,.int .i64 0] 72 (0,0))by rw[hW];exact ai _ _ _ e8);have zf:=ae (show W.heap[w.heap.size]?=some (.cells #[.slice a na ca,.slice b nb cb,.slice c nc cc] 68 (0,0))by rw[hW,aO _ _ _ e8];exact ai _ _ _ rfl);have CR:=ae (show W.heap.size=w.heap.size+1+1 by rw[hW];simp);have HV:=ae (ej H.o);cases zO:zM A B C
 ·rw[zO]at HV;have HR:=ae (show fd A B C=aV 0 by unfold fd;rw[zO];rfl);clear h zO y9;go_enter Tryz.func47,Tryz.ntmps47
  go_upto_region 1 with fail;rw[<-hW];clear hW;have p0:=am zf.o;have p1:=aD zf.o;have p2:=aG zf.o;go_wp2_with fail;refine HV.o.mono ?_;rintro e w1 ⟨rfl,hx⟩;have X1:=ae hx;obtain⟨l0,l1,l2,l3,l4,l5,l6,lf⟩:=zN (X1.o.blk Af.o);clear hx p0 p1 p2;go_wp2_with fail;refine bR (v:=CC (aV 0) none 0 0 none 0 0 none 0 0) (by simp[results,acR,go_sem,l0,l1,l2,l3,l4,l5,l6,lf,aV]) rfl ⟨?_,(y7.o.trans X1.o).AP (Cj _) _ _ _ _ _ _ _⟩;rw[HR.o];exact Qr.zero _ _ _
 ·rw[zO]at HV;obtain⟨r1,r2,r3,r4,r5,r6⟩:=cQ h zO;subst r3;have A5:=ae zO;have CZ:=ae (show fd A B C=match Ct A B C with|none=>aV 4|some r=>if aK bp A B C r=true then r else aV 4 by unfold fd;rw[hI zO];cases Ct A B C<;>rfl);have AT:=ae (fun(w':World) (hx:Ext W w')=>pW (H.o.ext hx) A5.o);obtain⟨o,ho⟩:=b9 (Ct A B C);rw[<-ho]at CZ;have Vw:=ae (fun(r:BQ) (e:o=some r)=>show r.X.length<=nc by have:=Ni (ho.symm.trans e);rw[show C.length=nc from h.c.hlen]at this;exact this);have Gn:=ae (fun(w':World) (S:Nat) (vs:List Value) (ra:j6) (rc:Nat) (ba:j6) (bc:Nat) (hx:Ext W w') (hS:W.heap.size<=S) (hw:bS w' S a nb ca b nb cb c nc cc ra nb rc ba nb bc vs (bV A B nc) 0 false)=>yO H.o A5.o hx hS hw);simp only[<-ho]at Gn;have GH:=ae (show(bV A B nc).rows.length=nb/\(bV A B nc).basis.length=nb by unfold bV;simp[show A.length=nb from h.a.hlen]);clear h zO ho r4 r5 r6 y9;go_enter Tryz.func47,Tryz.ntmps47
  go_upto_region 1 with fail;rw[<-hW];clear hW;have p0:=am zf.o;have p1:=aD zf.o;have p2:=aG zf.o;go_wp2_with fail;refine HV.o.mono ?_;rintro e w1 ⟨rfl,hx⟩;have X1:=ae hx;clear hx p0 p1 p2;have p0:=am (X1.o.blk zf.o);have p1:=aD (X1.o.blk zf.o);have p2:=aG (X1.o.blk zf.o);go_upto_region 3 with fail
  go_cut [3] (fun s3 wx=>∃(S:Nat) (vs:List Value) (ra:j6) (rc:Nat) (ba:j6) (bc:Nat),s3=.pointer (some ⟨S,0,none⟩)/\b7 (Ext W wx)/\b7 (W.heap.size<=S)/\b7 (bS wx S a nb ca b nb cb c nc cc ra nb rc ba nb bc vs (bV A B nc) 0 false))
  case first =>
   have k7:Ext w1 w1.drew:=Ext.drew w1;have k8:=ae (fun(w':World) (h:Ext w1 w')=>(⟨h.j9 p0,h.j9 p1,h.j9 p2,h⟩:w'.cell? ⟨w.heap.size,0,none⟩=some (.slice a nb ca)/\w'.cell? ⟨w.heap.size,1,none⟩=some (.slice b nb cb)/\w'.cell? ⟨w.heap.size,2,none⟩=some (.slice c nc cc)/\Ext w1 w'));refine rN (S:=(fun w'=>w'.cell? ⟨w.heap.size,0,none⟩=some (.slice a nb ca)/\w'.cell? ⟨w.heap.size,1,none⟩=some (.slice b nb cb)/\w'.cell? ⟨w.heap.size,2,none⟩=some (.slice c nc cc)/\Ext w1 w')) e9 ?_ (fun l7=>?_)
   ·exact k8.o _ k7
   refine tk 0 ?_;refine tk 1 ?_;refine rd (i:=2) (h:=fun K hK=>?_);go_simp
   (go_at_call 106;refine(AT.o _ (X1.o.trans k7)).mono ?_;rintro e w3 ⟨⟨va,vb,vs,rfl,Av⟩,zm⟩;have k7:=k7.trans zm;obtain⟨a7,n7,c7,rfl,H9⟩:=Av.a.var;obtain⟨a8,n8,c8,rfl,IL⟩:=Av.b.var)
   go_wp2_with fail;refine hK.out _ _ ?_ (fun l7=>?_)
   ·exact k8.o _ k7
   clear hK K
   try simp only[Act.put,sA,sB,sC]
   refine tk 3 ?_;have EY:=k7.trans (Ext.alloc w3 (.cells #[.slice a nb ca,.slice b nb cb,.slice c nc cc,.slice a7 n7 c7,.slice a8 n8 c8,.int .i64 (nc:Int),.int .i64 0,.bool false] 119));refine rd (i:=4) (h:=fun K hK=>?_);go_simp;refine hK.out _ _ ?_ (fun l7=>?_)
   ·exact k8.o _ EY
   clear hK K
   try simp only[Act.put,sA,sB,sC]
   refine tk 5 ?_;refine Gh e9 ?_ _;have hn7:nb=n7:=by have h1:=Av.CW.rows.hlen;rw[GH.o.1]at h1;exact h1
   have hn8:nb=n8:=by have h1:=Av.CW.basis.hlen;rw[GH.o.2]at h1;exact h1
   subst hn7;subst hn8;go_wp2_with fail;go_meet;exact⟨_,vs,a7,c7,a8,c8,rfl,ae (X1.o.trans EY),ae (X1.o.trans k7).size,ae ⟨ai _ _ _ rfl,(Av.ext (Ext.alloc _ _)).mono (KJ _)⟩⟩
  obtain⟨S,vs,ra,rc,ba,bc,rfl,zk,WX,HW3⟩:=hcut;clear p0 p1 p2;have ZV:=ae (Gn.o _ S vs ra rc ba bc zk.o WX.o HW3.o);go_wp2_with fail;refine ZV.o.mono ?_;rintro e w5 ⟨Fg,hs⟩;have X5:=ae (show Ext W w5 from Fg.ext zk.o WX.o);have D':=ae Fg;clear Fg;cases o with
  | none =>
    obtain⟨r,xa,xn,xc,ya,U,Z,Q,J,O,rfl,SH,TY,SG,Tm,Vo,Tl,QM,t5,n5,Hu⟩:=hs;obtain⟨rs,rX,rY,rr,⟨G,I⟩,rp⟩:=r;have XE:=ae (X5.o.trans (Ext.alloc w5 (bX ⟨rs,rX,rY,rr,(G,I),rp⟩ xa xn xc ya U Z Q J O)));have PD:=ae (Hu.ext (Ext.alloc w5 (bX ⟨rs,rX,rY,rr,(G,I),rp⟩ xa xn xc ya U Z Q J O)));have Au:=ae (show(w5.alloc (bX ⟨rs,rX,rY,rr,(G,I),rp⟩ xa xn xc ya U Z Q J O)).heap[w5.heap.size]?=some (bX ⟨rs,rX,rY,rr,(G,I),rp⟩ xa xn xc ya U Z Q J O)from ai _ _ _ rfl);obtain⟨E,hE⟩:=b9 (w5.alloc (bX ⟨rs,rX,rY,rr,(G,I),rp⟩ xa xn xc ya U Z Q J O));obtain⟨gB,Qk⟩:=b9 w5.heap.size;rw[<-hE]at XE PD;rw[<-hE,<-Qk]at Au;have hgW:W.heap.size<=gB:=by rw[Qk];exact X5.o.size
    go_upto_region 5 with fail;rw[<-hE,<-Qk];clear hE Qk Hu;obtain⟨l0,l1,l2,c0,c1,c2,c3,c4,cf⟩:=PD.o.cells;obtain⟨q0,q1,q2,q3,q4,q5,q6,qf⟩:=zN Au.o;have hne:gB≠S:=fun e=>jK Au.o PD.o.box (by decide) e
    have UD:=mr Au.o;have Ah:=mr PD.o.box;go_upto_region 6 with fail;obtain⟨w7,DE⟩:=b9 (E.setCell ⟨gB,6,none⟩ (.int .i64 (n5:Int)));have X7:=ae (show Ext W w7 by rw[DE];exact XE.o.setCell (p:=⟨gB,6,none⟩) hgW _);have c7:w7.cell? ⟨S,7,none⟩=some (.bool true):=by
     have Bg:w7.heap[S]?=E.heap[S]?:=by rw[DE];exact bB _ _ _ _ (fun e=>hne e.symm)
     rw[tn w7 S _ _ _ _ (Bg.trans PD.o.box)];rfl
    rw[<-DE];clear DE l0 l1 l2 c0 c1 c2 c3 c4 cf q0 q1 q2 q3 q4 q5 q6 qf;obtain⟨l0,l1,l2,l3,l4,l5,l6,lf⟩:=zN (X7.o.blk Af.o);go_wp2_with fail;refine bR (v:=CC (aV 4) none 0 0 none 0 0 none 0 0) (by simp[results,acR,go_sem,l0,l1,l2,l3,l4,l5,l6,lf,aV]) rfl ⟨?_,(y7.o.trans X7.o).AP (Cj _) _ _ _ _ _ _ _⟩;rw[CZ.o];exact Qr.zero _ _ _
  | some r =>
    obtain⟨xa,xn,xc,ya,U,Z,Q,J,O,rfl,DH,SH,TY,SG,Tm,Vo,Tl,QM,t5,n5,Hu,S0⟩:=hs;obtain⟨rs,rX,rY,rr,⟨G,I⟩,rp⟩:=r;simp only at S0;have XE:=ae (X5.o.trans (Ext.alloc w5 (bX ⟨rs,rX,rY,rr,(G,I),0⟩ xa xn xc ya U Z Q J O)));have PD:=ae (Hu.ext (Ext.alloc w5 (bX ⟨rs,rX,rY,rr,(G,I),0⟩ xa xn xc ya U Z Q J O)));have MA:=ae (DH.ext (Ext.alloc w5 (bX ⟨rs,rX,rY,rr,(G,I),0⟩ xa xn xc ya U Z Q J O)));have Au:=ae (show(w5.alloc (bX ⟨rs,rX,rY,rr,(G,I),0⟩ xa xn xc ya U Z Q J O)).heap[w5.heap.size]?=some (bX ⟨rs,rX,rY,rr,(G,I),0⟩ xa xn xc ya U Z Q J O)from ai _ _ _ rfl);have Ei:=ae (show w5.heap.size<(w5.alloc (bX ⟨rs,rX,rY,rr,(G,I),0⟩ xa xn xc ya U Z Q J O)).heap.size by simp);have HL5:=ae DH;obtain⟨E,hE⟩:=b9 (w5.alloc (bX ⟨rs,rX,rY,rr,(G,I),0⟩ xa xn xc ya U Z Q J O));obtain⟨gB,Qk⟩:=b9 w5.heap.size;have HEX:=ae (show Ext w5 E by rw[hE];exact Ext.alloc _ _);rw[<-hE]at XE PD MA Ei;rw[<-hE,<-Qk]at Au;have hgW:W.heap.size<=gB:=by rw[Qk];exact X5.o.size
    have L7:=ae Qk;go_upto_region 5 with fail;rw[<-hE,<-Qk];clear hE Qk Hu DH;obtain⟨l0,l1,l2,c0,c1,c2,c3,c4,cf⟩:=PD.o.cells;obtain⟨q0,q1,q2,q3,q4,q5,q6,qf⟩:=zN Au.o;have hne:gB≠S:=fun e=>jK Au.o PD.o.box (by decide) e
    have UD:=mr Au.o;have Ah:=mr PD.o.box;rw[S0]at c3;clear S0;go_upto_region 6 with fail;obtain⟨w7,DE⟩:=b9 (E.setCell ⟨gB,6,none⟩ (.int .i64 rp));have X7:=ae (show Ext W w7 by rw[DE];exact XE.o.setCell (p:=⟨gB,6,none⟩) hgW _);have c7:w7.cell? ⟨S,7,none⟩=some (.bool false):=by
     have Bg:w7.heap[S]?=E.heap[S]?:=by rw[DE];exact bB _ _ _ _ (fun e=>hne e.symm)
     rw[tn w7 S _ _ _ _ (Bg.trans PD.o.box)];rfl
    have Fb:=ae (show w7.heap[gB]?=some (.cells #[.int .i64 rs,.slice xa xn xc,.slice ya U Z,.slice Q J O,.int .i64 G,.int .i64 I,.int .i64 rp] 72 (0,0))by
     rw[DE,ta E gB 6 _ _ (.int .i64 rp) Au.o];rfl)
    have HK7:=ae (show∀k,k<w5.heap.size->w7.heap[k]?=w5.heap[k]? from fun k hk=>by
     rw[DE];exact(bB _ _ _ _ (by have:=L7.o;show k≠gB;omega)).trans (HEX.o.block k hk))
    have HL7:=ae (show Dg w7 W.heap.size xa xn xc ya U Z Q J O ⟨rs,rX,rY,rr,(G,I),rp⟩from(by
     have h1:=HL5.o.keep (w':=w7) (by rw[DE];have:=HEX.o.size;simpa using this) (fun k hk k7=>by rw[DE];exact(bB _ _ _ _ (by have:=L7.o;show k≠gB;omega)).trans (HEX.o.block k k7));have h2:=h1.mono (base':=W.heap.size) zk.o.size
     exact⟨h2.x,h2.y,h2.CB⟩))
    rw[<-DE];clear DE l0 l1 l2 c0 c1 c2 c3 c4 cf q0 q1 q2 q3 q4 q5 q6 qf;have p0:=am (X7.o.blk zf.o);have p1:=aD (X7.o.blk zf.o);have p2:=aG (X7.o.blk zf.o);obtain⟨q0,q1,q2,q3,q4,q5,q6,qf⟩:=zN Fb.o;have P9:=ae (yC (H.o.ext X7.o) HL7.o.here A5.o);obtain⟨ck,UW⟩:=b9 (aK bp A B C ⟨rs,rX,rY,rr,(G,I),rp⟩);have PG:=ae (show fd A B C=if ck=true then⟨rs,rX,rY,rr,(G,I),rp⟩ else aV 4 by rw[CZ.o,UW]);rw[<-UW]at P9;clear UW;go_wp2_with fail;refine P9.o.mono ?_;rintro e w8 ⟨rfl,hx⟩;have X8:=ae (X7.o.trans hx);have V1:=ae (HL7.o.ext hx);have QJ:=ae (hx.blk Fb.o);have hs57:w5.heap.size<=w7.heap.size:=by have h1:=mr Fb.o;have h2:=L7.o;omega
    have HK8:=ae (show∀k,k<w5.heap.size->w8.heap[k]?=w5.heap[k]? from fun k hk=>(hx.block k e7).trans (HK7.o k hk));have hs58:w5.heap.size<=w8.heap.size:=by have:=hx.size;omega
    clear hx p0 p1 p2 q0 q1 q2 q3 q4 q5 q6 qf c7;cases ck
    ·obtain⟨l0,l1,l2,l3,l4,l5,l6,lf⟩:=zN (X8.o.blk Af.o);go_wp2_with fail;refine bR (v:=CC (aV 4) none 0 0 none 0 0 none 0 0) (by simp[results,acR,go_sem,l0,l1,l2,l3,l4,l5,l6,lf,aV]) rfl ⟨?_,(y7.o.trans X8.o).AP (Cj _) _ _ _ _ _ _ _⟩;rw[PG.o];exact Qr.zero _ _ _
    ·obtain⟨q0,q1,q2,q3,q4,q5,q6,qf⟩:=zN QJ.o;have hxn:xn<=1099511627776:=by
      have h1:=V1.o.here.x.hlen;have h2:=Vw.o _ rfl;simp only at h1 h2;omega
     have HCP:=ae (nM V1.o.here.x hxn);go_wp2_with fail;refine HCP.o.mono ?_;rintro e w9 ⟨⟨v9,rfl,Ml⟩,hx⟩;obtain⟨a9,n9,c9,rfl,PS⟩:=Ml.var;have X9:=ae (X8.o.trans hx);have Xe:=ae (V1.o.ext hx);have Me:=ae (hx.blk QJ.o);have HK9:=ae (show∀k,k<w5.heap.size->w9.heap[k]?=w5.heap[k]? from fun k hk=>(hx.block k e7).trans (HK8.o k hk));have hs59:w5.heap.size<=w9.heap.size:=by have:=hx.size;omega
     have FR:=ae Ml;have hlt9:=mr Me.o;have Up:=X8.o.size;clear Ml q0 q1 q2 q3 q4 q5 q6 qf;obtain⟨q0,q1,q2,q3,q4,q5,q6,qf⟩:=zN Me.o;have hg8:=mr QJ.o;clear hx;go_upto_region 9 with fail;obtain⟨wA,Ug⟩:=b9 (w9.setCell ⟨gB,1,none⟩ (.slice a9 n9 c9));have XA:=ae (show Ext W wA by rw[Ug];exact X9.o.setCell (p:=⟨gB,1,none⟩) hgW _)
     have HBA:=ae (show wA.heap[gB]?=some (.cells #[.int .i64 rs,.slice a9 n9 c9,.slice ya U Z,.slice Q J O,.int .i64 G,.int .i64 I,.int .i64 rp] 72 (0,0))by
      rw[Ug,ta w9 gB 1 _ _ (.slice a9 n9 c9) Me.o];rfl)
     have HOA:=ae (show o0 wA w8.heap.size (.slice a9 n9 c9) rX by
      rw[Ug];exact FR.o.keep fun k hk=>bB _ _ _ _ (by have:=(FR.o.lt k hk).1;show k≠gB;omega))
     have QB:=ae (show∀k,k<w5.heap.size->wA.heap[k]?=w5.heap[k]? from fun k hk=>by
      rw[Ug];exact(bB _ _ _ _ (by have:=L7.o;show k≠gB;omega)).trans (HK9.o k hk))
     have Yj:w5.heap.size<=wA.heap.size:=by rw[Ug];simpa using hs59
     rw[<-Ug];clear Ug q0 q1 q2 q3 q4 q5 q6 qf;obtain⟨q0,q1,q2,q3,q4,q5,q6,qf⟩:=zN HBA.o;obtain⟨l0,l1,l2,l3,l4,l5,l6,lf⟩:=zN (XA.o.blk Af.o);have FM:=CR.o;have F6:=zk.o.size;go_wp2_with fail;refine bR (v:=CC ⟨rs,rX,rY,rr,(G,I),rp⟩ a9 n9 c9 ya U Z Q J O) (by simp[results,acR,go_sem,l0,l1,l2,l3,l4,l5,l6,lf]) rfl ⟨?_,(y7.o.trans XA.o).AP (Cj _) _ _ _ _ _ _ _⟩;rw[PG.o];refine⟨a9,n9,c9,ya,U,Z,Q,J,O,rfl,?_,?_,?_⟩
     ·exact(HOA.o.keep fun i hi=>bU _ (j1 ((HOA.o.lt i hi).1)) _ _ _ _ _ _ _).Dm e7
     ·exact(HL5.o.y.keep (by simpa using Yj) fun k hk k7=>(bU _ e7 _ _ _ _ _ _ _).trans (QB.o k k7)).mono e7
     ·exact(HL5.o.CB.keep (by simpa using Yj) fun k hk k7=>(bU _ e7 _ _ _ _ _ _ _).trans (QB.o k k7)).mono e7
end
