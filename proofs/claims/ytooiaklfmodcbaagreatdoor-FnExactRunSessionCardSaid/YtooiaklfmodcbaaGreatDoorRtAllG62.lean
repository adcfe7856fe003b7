import Derived.Test.YtooiaklfmodcbaaGreatDoorRtAllG48
import Derived.Test.YtooiaklfmodcbaaGreatDoorRtAllG45
set_option linter.all false
set_option maxHeartbeats 6000000
set_option maxRecDepth 100000
namespace Go.Proofs.YtooiaklfmodcbaaGreatDoor
open Ending renaming returned->ar
open List renaming length->JL
open Obj renaming cells->QD
open Value renaming slice->GI,bool->bl,string->aE,pointer->aP
open Go.RowKit Go.Proofs.Tryz
variable{σ:Prop}
section
def Xv(h:σ:=by simp[results,xi,go_sem,r0,r1,r2,rf,z0,z1,z2]<;>rfl):σ:=h
def TI(h:σ:=by simp[results,Tryz.results127,go_sem,Eb,Eh,FZ]):σ:=h
def WQ(h:σ:=by have:=HG.o;simp;omega):σ:=h
def Rz(h:σ:=by rw[Hc.o];exact Rj):σ:=h
variable{n k r:Nat}{V:o3}{a:l9}
def MC(n k:Nat)(M:l8):l8:=(M.take k).map (λr=>r.set (n-2) (-1))++M.drop k
theorem Ae{M:l8}(h:k<JL M):(MC n k M)[k]?.getD []=M[k]?.getD []:=by
 unfold MC;rw[Sl m9,XJ];congr 2;simp;omega
theorem DG{M:l8}(h:k<JL M):(MC n k M).set k (((MC n k M)[k]?.getD []).set (n-2) (-1))=MC n (k+1) M:=by
 rw[Ae h];unfold MC;have E:JL ((M.take k).map λr=>r.set (n-2) (-1))=k:=m9;rw[ct _ _ j0,E,Y',RQ h,MY,xl h,sr,Id h];simp
theorem VA(hn:2<=n):(DK (EK 1 (n-1)) k).set (n-2) (-1)=eB n k:=by
 unfold eB;obtain⟨m,rfl⟩:∃m,n=m+2:=⟨n-2,by omega⟩;have e:DK (EK 1 (m+2-1)) k=DK (EK 1 m) k++[D3 (Gd (1+(m:Int)) (k:Int))]:=by
  unfold DK EK;rw[show m+2-1=m+1 by omega,rN,sr,sr];rfl
 have E:JL (DK (EK 1 m) k)=m:=by unfold DK EK;simp
 rw[e,show m+2-2=m by omega,ct _ _ j0,E,Y'];rfl
theorem UC{q:Nat}(E:2<=n):MC n q (EL q (EK 1 (n-1)))=(List.range q).map (eB n):=by
 unfold MC;have hl:JL (EL q (EK 1 (n-1)))=q:=by unfold EL;simp
 rw[bR j0,E1 j0,C3];unfold EL;rw[Uc];exact W6 λk _=>VA E
theorem U6(hn:2<=n):(List.replicate (n-1) (1:Int)).set (n-2) 0=List.replicate (n-2) 1++[0]:=by
 obtain⟨m,rfl⟩:∃m,n=m+2:=⟨n-2,by omega⟩;rw[show m+2-1=m+1 by omega,show m+2-2=m by omega,eo,ct _ _ j7];simp
theorem BY{p:Int}(h:2<=JL V):(aW V).set (JL V-2) (bu p V,1)=dQ p V:=by
 unfold dQ;have hl:JL (aW V)=JL V-1:=by unfold aW;simp
 obtain⟨m,hm⟩:∃m,JL V=m+2:=⟨JL V-2,by omega⟩;rw[List.set_eq_take_append_cons_drop,f9 j0,E1 j0]
theorem mv{x y:J}{base:Nat}{b c:l9}{m l p q:Nat}{A:l8}{B:o3}{C:l7}(E:bZ x base (GI a n p) A)(K:r' x base (GI b m q) B)(H:WV x base (GI c l r) C)(G:∀k,base<=k->y.heap[k]?=x.heap[k]?):Kh y a n p b m q c l r A B C :=
 ⟨bZ.Kq (E.on _ λk E _=>G k E),(K.on _ λk E _=>G k E).ints,(H.keep λk E=>G k (H.lt k E).1).rats⟩
theorem jp{x:J}(u v t:arQ)(b:Nat)(h:b≠r):(((x.setCell (O r 0) u).setCell (O r 1) v).setCell (O r 2) t).heap[b]?=x.heap[b]?:=by
 rw[GE _ _ _ _ h,GE _ _ _ _ h,GE _ _ _ _ h]
def Tk(h:σ:=by
 exact⟨(hE.trans WU).o6 Jp.o,A8.trans (hE.trans WU)⟩
 ):σ:=h
def y8(h:σ:=by
 exact⟨(W4 _ _ _).o6 HG0.o,(((A8.trans hE).store 0 (b7 _) _).store 1 (b7 _) _).store 2 (b7 _) _⟩
 ):σ:=h
theorem Cr{w:J}{p:Int}{cap:Nat}(h:d9 w a n cap V):
 Calls Tryz.prog 127 #[FS p a n cap] w λe w'=>Yc w' e (eZ p.toNat n) (fV p.toNat) (dQ p V) (ak p V&&decide (2<=p))/\C7 w w':=by
 have⟨W,hW⟩:=e9 ((w.alloc (QD #[U p,GI a n cap] 31)).alloc (QD #[d6,d6,d6] 105));refine ns (show W.heap.size=w.heap.size+2 by rw[hW];simp) (show C7 w W by rw[hW];exact WU.trans WU) (show W.cell? (O w 0)=some (U p)by rw[hW];exact C7.o6 WU j7) (show W.cell? (O w 1)=some (GI a n cap)by rw[hW];exact C7.o6 WU j7) (show W.heap[w.heap.size+1]?=some (QD #[d6,d6,d6] 105 (0,0))by rw[hW];exact IO j7) λDW A8 Jp Zh R5=>?_;have⟨WG,Rc⟩:=e9 (w.alloc (QD #[U p,GI a n cap] 31));refine t8 (show C7 WG W by rw[hW,Rc];exact WU) (show WG.heap.size=w.heap.size+1 by rw[Rc];simp) (show WG.cell? (O w 0)=some (U p)by rw[Rc];simp) λHXG MB HG0=>?_;clear Rc;have⟨ND,NC⟩:=h.aq9;refine t8 (h.ext A8) h.hlen (bV (p:=p) (h.ext A8)) λI6 HVL HC=>?_;have J':(w.heap.size+1)<W.heap.size:=by rw[DW.o];omega
 have DO:=I (λ(w':J) (hx:C7 W w')=>(hx.block _ J').trans R5);clear h J';have Hp:=I (show∀(e:Ending) (w':J),C7 w w'->e=ar (.tuple #[.agg #[d6,d6,d6],bl false])->(ak p V&&decide (2<=p))=false->Yc w' e (eZ p.toNat n) (fV p.toNat) (dQ p V) (ak p V&&decide (2<=p))/\C7 w w' from
  λe w' hx he hf=>by rw[hf];exact⟨⟨none,0,0,none,0,0,none,0,0,he,λh=>Bool.noConfusion h⟩,hx⟩)
 cases hg:ak p V
 ·rw[hg]at HC Hp;clear hg;go_in
  go_upto_region 1 with fail;rw[<-hW];clear hW;have k0:=Jp.o;have k1:=Zh.o;go_wp2_with fail;refine i7 HC λw1 A0=>?_;clear k0 k1;have⟨Eb,Eh,FZ,Ip⟩:=fL (DO w1 A0);go_wp2;refine Fn (v:=.tuple #[.agg #[d6,d6,d6],bl false]) TI rfl (Hp _ _ ((((A8.trans A0).store 0 j0 _).store 1 j0 _).store 2 j0 _) rfl rfl)
 rw[hg]at HC Hp;obtain⟨q,rfl,h1,h5,hlen,_,FG⟩:=ap hg;have hq:=bp q h5;have IB:∀n:Fin 6,1<=n.val->2<=cN n.val:=by decide
 have Nf:2<=n:=by rw[<-HVL.o,hlen];exact IB ⟨q,by omega⟩ h1
 have GQ:n<=32:=by rw[<-HVL.o,hlen];omega
 have IG:=I FG;have Kv:=dk ((n:Int)-1);have Yh:=I (zX GQ);have F5:=I (show(EK 1 (n-1)).length=n-1 by simp[EK]);clear hg hlen FG hq IB;by_cases Oh:2<=(q:Int)
 ·have hp2':¬(q:Int)<2:=by omega
  rw[show(true&&decide (2<=(q:Int)))=true by rw[UV Oh];rfl];clear Oh;go_in
  go_upto_region 1 with fail;rw[<-hW];clear hW;have k0:=Jp.o;have k1:=Zh.o;go_wp2_with fail;refine i7 HC λw1 A'=>?_;clear k0 k1;have D1:=A'.o6 Jp.o;have Eu:=A'.o6 Zh.o;have A0:=I A';go_upto_region 4 with fail;have hk:=C7.drew w1;refine nE (S:=(λw'=>w'.cell? (O w 0)=some (U q)/\C7 W w')) j8 ?_ (λo9=>?_)
  ·exact⟨hk.o6 D1,A0.trans hk⟩
  refine mq ⟨?_⟩;refine rd 3 λK hK=>?_;go_simp
  (go_at_call 196;refine PP (kx 1 ((n:Int)-1) (n-1) j0 j0 j0 j0) λw3 v3 EV B5=>?_;obtain⟨a3,n3,c3,rfl,LK⟩:=EV.var;have hk:=hk.trans B5;have B9:=I EV;clear EV)
  go_wp2_with fail;refine KO (an (hk.o6 D1) (A0.trans hk)) λo9=>?_;refine rd 4 λK hK=>?_;go_simp
  (go_at_call 195;refine(kZ q h5 B9.ints Yh.o (by have h1:=LK.o;have h2:=F5.o;omega)).mono ?_;rintro e w4 ⟨⟨v4,rfl,vs,RM,Mp⟩,DN⟩;obtain⟨a4,n4,c4,rfl,Ys⟩:=RM.var;have EI:b9 (DQ w4 W (GI a4 n4 c4) vs):=RM.mono' (A0.trans hk).size;have IL:=I (Mp.mono' (A0.trans hk).size);have hk:=hk.trans DN;clear RM Mp DN)
  go_wp2_with fail;refine KO (an (hk.o6 D1) (A0.trans hk)) λo9=>?_;refine tk 5 ?_;refine Pi j8 ?_ _;have hnq:n4=q:=by have h1:=IL.len;have h2:=EI.len;have h3:JL (EL q (EK 1 (n-1)))=q:=(by unfold EL;simp);omega
  subst hnq;have Ec:b9 (Io w4 W a4 n4 c4 vs (MC n 0 (EL n4 (EK 1 (n-1))))):=I ⟨EI,by have:MC n 0 (EL n4 (EK 1 (n-1)))=EL n4 (EK 1 (n-1)):=(by unfold MC;simp);rw[this];exact IL⟩;have HX:=I (A0.trans hk);have Ol:=Ec.cap.1;have Tn:=Ec.cap.2;clear hk D1 Eu;go_wp2
  go_loopg [30] n4 (λgk ii wr=>∃k:Nat,b9 (gk+k=n4)/\ii=U k/\b9 (Io wr W a4 n4 c4 vs (MC n k (EL n4 (EK 1 (n-1)))))/\b9 (C7 W wr))
  ·exact YJ
  obtain⟨k,HK,rfl,HMK,XK⟩:=hrel;by_cases hlt:k<n4
  ·have hml:k<JL (EL n4 (EK 1 (n-1))):=by unfold EL;simp;exact hlt
   obtain⟨G,rfl,_,_,_⟩:=HMK.outer j0;obtain⟨gr,cr,Q1,hcr,RN,_,Nj,_,hncr,hcrm⟩:=HMK.row (n:=n-1) hlt (by rw[Ae hml,mC hlt,gJ,F5.o]) j0;have JW:=RN.GG.2.2.1 (n-2);have LF:=RN.GG.2.2.2 (n-2) j0;have HT:=I (HMK.Mj hlt Q1 (n-2) (-1));rw[DG hml]at HT;have X2:=I (XK.store (b:=gr) (n-2) Nj (U (-1)));have Tq:(n:Int)-1-1=((n-2:Nat):Int):=j0;have⟨j,hj⟩:=e9 (n-2);rw[<-hj]at JW LF HT X2 Tq;have Ii:j+2=n:=j0;clear Q1 RN hj;exact W2
  have Rb:k=n4:=k8 HK.o;subst Rb;have Jo:=I HMK.o;rw[UC Nf]at Jo;have⟨wq,hwq⟩:=e9 wr;subst hwq;have X5:=I XK.o;have htm:IntKind.i64.wrap ((n:Int)-1)=(n:Int)-1:=Kv;have R7:=I (fZ (w:=wq) (n-1) 1 j0);rw[show((n-1:Nat):Int)=(n:Int)-1 by omega]at R7;clear HMK;go_wp2_with fail;refine PP R7 λw6 v6 JG Hg=>?_;obtain⟨a6,nl,cl,rfl,Ia⟩:=JG.var;have hnl:nl=n-1:=by have:=Ia.o;simp at this;omega
  obtain⟨gl,rfl,JK,hfl,_⟩:=JG.block (show n-2<nl by omega);have hlc:=JG.ints.r8;have P7:=JG.GG.2.2.2 (n-2) j0;have Oo:=JG.ints.r9;have hff:=hfl (n-2);have aa:=I (JG.set (n-2) 0);rw[U6 Nf]at aa;have hslt:∀k,k<wq.heap.size->(w6.setCell ⟨gl,n-2,none⟩ (U 0)).heap[k]?=wq.heap[k]?:=λk o7=>(GE _ _ _ _ (show k≠gl by omega)).trans (Hg.block k o7)
  have FU:=I (Hg.store (b:=gl) (n-2) JK (U 0));have Tq:(n:Int)-1-1=((n-2:Nat):Int):=j0;have⟨j,hj⟩:=e9 (n-2);rw[<-hj]at hff P7 FU Tq aa;have HJ:=I hj;have Hc:=I (show eZ (k:Int).toNat n=(List.range k).map (eB n)++[List.replicate j 1++[0]]by unfold eZ;rw[gg,hj]);have Ii:j+2=n:=j0;have F0:=Rd j nl;have Kw:=I hnl;clear JG hfl hslt hj hnl;have⟨w7,Gh⟩:=e9 (w6.setCell (O gl j) (U 0));rw[<-Gh]at aa FU;go_upto_region 12 with fail;rw[<-Gh];clear Gh hff P7;have X7:=I (X5.trans FU);have D1:=X7.o6 Jp.o;have Eu:=X7.o6 Zh.o;have HMV:=I (mY (p:=(k:Int)) (I6.ext X7) j0 j0 IG);go_wp2_with fail;refine PP HMV λw8 v8 I4 HXV=>?_;obtain⟨a8,n8,c8,rfl,M7⟩:=I4.var;have Mc:=I I4;have X8:=I (X7.trans HXV);have hj8:(j:Int)<(n8:Int):=by have h1:=M7.o;have h2:=HVL.o;unfold aW at h1;simp at h1;omega
  clear I4 D1 Eu;have D1:=X8.o6 Jp.o;have Eu:=X8.o6 Zh.o;have JT:=I (iE (p:=(k:Int)) (I6.ext X8));have⟨gv,HGG⟩:=GT (bu (k:Int) V);rw[<-HGG.o]at JT;go_wp2_with fail;refine i7 JT λw9 hx9=>?_;go_wp2_with fail;refine i7 (cO gv _) λNx MI=>?_;have hx:=hx9.trans MI;obtain⟨gc,rfl,NI,WJ,hgcl⟩:=(Mc.ext hx).block (show j<n8 by omega);have⟨KH,JD⟩:=(Mc.ext hx).GG.2.2.2 j j0;have Pk:=WJ (j*2);have Pj:=WJ (j*2+1);have⟨hcc,K3⟩:=Mc.rats.aq9;have⟨wa,hwa⟩:=e9 ((Nx.setCell (O gc (j*2)) (U gv)).setCell (O gc (j*2+1)) (U 1));have NY:=I (show C7 w7 wa by rw[hwa];exact((HXV.trans hx).store (b:=gc) (j*2) NI (U gv)).store (b:=gc) (j*2+1) NI (U 1))
  have HC:=I (show WV wa W (EQ gc n8 c8) (dQ (k:Int) V)by
   have h3:=BY (p:=(k:Int)) (V:=V) (by rw[HVL.o];exact Nf);rw[HVL.o]at h3;rw[hwa,<-h3,<-HJ.o,<-HGG.o];exact((Mc.ext hx).set (k:=j) (by have h1:=M7.o;omega) gv 1).mono X7.size)
  have aa:=I ((aa.ext NY).mono X5.size);have Ec:=I (Jo.ext (FU.trans NY));have aeM:=I (show Hw vs (EQ gl nl cl)from λi b hi hb Ew=>by
   have h1:=((Jo.rows.row i (by rw[<-Jo.rows.len];exact hi)).lt b hb).2;simp only[Value.ownBlock,bq]at Ew;omega)
  have hEa:=X7.trans NY.o;have N1:=I (show JL vs<=1000 by rw[Ec.GW];omega);go_upto_region 14 with fail;rw[<-hwa];clear hwa hx NI WJ hgcl Pk Pj KH JD D1 Eu;have D1:=hEa.o6 Jp.o;have hE:=hEa.trans (C7.drew wa);refine nE (S:=(λw'=>w'.cell? (O w 0)=some (U k)/\C7 w w')) j8 ?_ (λo9=>?_)
  ·exact⟨hE.o6 Jp.o,A8.trans hE⟩
  refine t8 (Ec.ext (C7.drew wa)) (aa.ext (C7.drew wa)) (HC.ext (C7.drew wa)) λEc aa HC=>?_;have⟨x0,B8⟩:=e9 wa.drew;rw[<-B8]at hE o9 Ec aa HC;rw[<-B8];clear B8 D1 hEa;refine tk 0 ?_;refine tk 1 ?_;refine tk 4 ?_;refine tk 5 ?_;refine tk 9 ?_;refine YT (rs:=[2,7]) j8 j7 ?_;refine Rg (λK hK=>?_) ?_
  ·
   go_simp;refine hK.out _ _ ?_ (λo9=>?_)
   ·exact Tk
   clear hK K
   try simp only[Act.put,sA,sB,sC]
   have⟨x2,C4⟩:=e9 (x0.alloc (QD #[EQ gl nl cl] 29));have e2:C7 x0 x2:=by rw[C4];exact WU
   have Kl:=I (show x2.cell? (O x0 0)=some (EQ gl nl cl)by rw[C4];simp);rw[<-C4]at o9;rw[<-C4];clear C4;have hE:=hE.trans e2;generalize x0.heap.size=g2 at Kl⊢;refine t8 (Ec.ext e2) (aa.ext e2) (HC.ext e2) λEc aa HC=>?_;clear e2;refine YT (rs:=[3,7]) j8 j7 ?_;refine Rg (λK hK=>?_) ?_
   ·
    refine du _ _ j9 W (GI a4 k c4) vs j9 Ec.own _ _ 1 j9 Kl.o rfl (k8 N1.o) hE.size ?_;intro v3 x3 ho hg r7;have hE:C7 W x3:=aj hE hg (λj hj=>(Ec.own.lt j hj).1);have HR:=I ((Ec.rows.Gx Ec.own hg).Sq (aa.Kp WF Ec.own hg) aeM);have HC:=I (HC.Kp WF Ec.own hg);obtain⟨a9,n9,c9,rfl,N'⟩:=ho.var;have HA:=I ho;clear ho hg r7;go_wp2_with fail;refine KO (an (hE.o6 Jp) (A8.trans hE)) λo9=>?_;refine YT (rs:=[6,7]) j8 j7 ?_;refine Rg (λK hK=>?_) ?_
    ·
     go_simp
     (go_at_call 197;refine PP (fZ k 0 j0) λx6 v6 JG Hg=>?_;obtain⟨a6,n6,c6,rfl,Ia⟩:=JG.var;have HB:=I JG;have HZ:=I Hg;have Sl:=I hE;have hE:=hE.trans Hg;clear JG)
     go_wp2_with fail;refine KO (an (hE.o6 Jp) (A8.trans hE)) λo9=>?_;refine rd 7 λK hK=>?_;go_simp;refine hK.out _ _ ?_ (λo9=>?_)
     ·exact Tk
     clear hK K
     try simp only[Act.put,sA,sB,sC]
     have⟨H,Hm⟩:=e9 (x6.alloc (QD #[U 1] 3));have E:C7 x6 H:=by rw[Hm];exact WU
     have HF:=I (show r' H W (EQ x6 1 1) [1]by rw[Hm];exact r'.VD _ _ _ hE.size);rw[<-Hm]at o9;rw[<-Hm];clear Hm;have hE:=hE.trans E;generalize x6.heap.size=g7 at HF⊢;have HZ:=I (HZ.trans E);have HB:=I (HB.ext E);clear E;refine rd 8 λK hK=>?_;refine aO _ _ j9 x3 (GI a6 n6 c6) _ j9 HB.o _ 1 _ [1] j9 HF.ints m9 HZ.size ?_;intro v8 x8 ho hg r7;have MY:=I (aj HZ.o hg λj hj=>(HB.lt j hj).1);have hE:=Sl.trans MY.o;obtain⟨a8,m8,Z,rfl,aeR⟩:=ho.var;have OC:=I ho;have⟨Eb,Eh,FZ,Ip⟩:=fL (DO _ hE);clear ho hg r7;go_wp2_with fail;refine KO (an (hE.o6 Jp) (A8.trans hE)) λo9=>?_;refine t8 (show bZ x8 W (GI a9 n9 c9) _ from⟨_,HA.ext MY.o,HR.ext MY.o⟩) (HC.ext MY) (OC.mono Sl.size) λRj Zn Mg=>?_;have W4:=λu0 u1 u2=>(((HXG.trans hE).store (b:=w.heap.size+1) 0 (wZ MB) u0).store (b:=w.heap.size+1) 1 (wZ MB) u1).store (b:=w.heap.size+1) 2 (wZ MB) u2;refine tk 10 ?_;refine rd 11 λK hK=>?_;go_simp;refine hK.out _ _ ?_ (λo9=>?_)
     ·exact y8
     clear hK K
     try simp only[Act.put,sA,sB,sC]
     refine tk 12 ?_;refine Pi j8 ?_ _;go_wp2;refine Fn (v:=.tuple #[Ig a9 n9 c9 a8 m8 Z (some (O gc 0)) n8 c8,bl true]) TI rfl ⟨⟨_,_,_,_,_,_,_,_,_,rfl,λ_=>mv Rz Mg.o Zn.o (λb hb=>jp _ _ _ _ (k8 DW.o))⟩,(((A8.trans hE).store 0 (b7 _) _).store 1 (b7 _) _).store 2 (b7 _) _⟩
    refine Rg (λK hK=>?_) WW
       
    go_simp;refine hK.out _ _ ?_ (λo9=>?_)
    ·exact Tk
    clear hK K
    try simp only[Act.put,sA,sB,sC]
    have⟨H,Hm⟩:=e9 (x3.alloc (QD #[U 1] 3));have E:C7 x3 H:=by rw[Hm];exact WU
    have HF:=I (show r' H W (EQ x3 1 1) [1]by rw[Hm];exact r'.VD _ _ _ hE.size);rw[<-Hm]at o9;rw[<-Hm];clear Hm;have hE:=hE.trans E;generalize x3.heap.size=g7 at HF⊢;refine t8 (HA.ext E) (HR.ext E) (HC.ext E) λHA HR HC=>?_;clear E;refine rd 6 λK hK=>?_;go_simp
    (go_at_call 197;refine PP (fZ k 0 j0) λx6 v6 JG Hg=>?_;obtain⟨a6,n6,c6,rfl,Ia⟩:=JG.var;have HB:=I JG;have HZ:=I Hg;have Sl:=I hE;have hE:=hE.trans Hg;have HF:=I (HF.ext Hg);clear JG)
    go_wp2_with fail;refine KO (an (hE.o6 Jp) (A8.trans hE)) λo9=>?_;refine rd 8 λK hK=>?_;refine aO _ _ j9 H (GI a6 n6 c6) _ j9 HB.o _ 1 _ [1] j9 HF.ints m9 HZ.size ?_;intro v8 x8 ho hg r7;have MY:=I (aj HZ.o hg λj hj=>(HB.lt j hj).1);have hE:=Sl.trans MY.o;obtain⟨a8,m8,Z,rfl,aeR⟩:=ho.var;have OC:=I ho;have⟨Eb,Eh,FZ,Ip⟩:=fL (DO _ hE);clear ho hg r7;go_wp2_with fail;refine KO (an (hE.o6 Jp) (A8.trans hE)) λo9=>?_;refine t8 (show bZ x8 W (GI a9 n9 c9) _ from⟨_,HA.ext MY.o,HR.ext MY.o⟩) (HC.ext MY) (OC.mono Sl.size) λRj Zn Mg=>?_;have W4:=λu0 u1 u2=>(((HXG.trans hE).store (b:=w.heap.size+1) 0 (wZ MB) u0).store (b:=w.heap.size+1) 1 (wZ MB) u1).store (b:=w.heap.size+1) 2 (wZ MB) u2;refine tk 10 ?_;refine rd 11 λK hK=>?_;go_simp;refine hK.out _ _ ?_ (λo9=>?_)
    ·exact y8
    clear hK K
    try simp only[Act.put,sA,sB,sC]
    refine tk 12 ?_;refine Pi j8 ?_ _;go_wp2;refine Fn (v:=.tuple #[Ig a9 n9 c9 a8 m8 Z (some (O gc 0)) n8 c8,bl true]) TI rfl ⟨⟨_,_,_,_,_,_,_,_,_,rfl,λ_=>mv Rz Mg.o Zn.o (λb hb=>jp _ _ _ _ (k8 DW.o))⟩,(((A8.trans hE).store 0 (b7 _) _).store 1 (b7 _) _).store 2 (b7 _) _⟩
   refine Rg (λK hK=>?_) WW
      
   go_simp;refine hK.out _ _ ?_ (λo9=>?_)
   ·exact Tk
   clear hK K
   try simp only[Act.put,sA,sB,sC]
   have⟨H,Hm⟩:=e9 (x2.alloc (QD #[U 1] 3));have E:C7 x2 H:=by rw[Hm];exact WU
   have HF:=I (show r' H W (EQ x2 1 1) [1]by rw[Hm];exact r'.VD _ _ _ hE.size);rw[<-Hm]at o9;rw[<-Hm];clear Hm;have hE:=hE.trans E;generalize x2.heap.size=g7 at HF⊢;refine Op (Ec.ext E) (E.o6 Kl) (aa.ext E) (HC.ext E) λEc Kl aa HC=>?_;clear E;refine rd 3 λK hK=>?_;refine du _ _ j9 W (GI a4 k c4) vs j9 Ec.own _ _ 1 j9 Kl.o rfl (k8 N1.o) hE.size ?_;intro v3 x3 ho hg r7;have hE:C7 W x3:=aj hE hg (λj hj=>(Ec.own.lt j hj).1);refine t8 ((Ec.rows.Gx Ec.own hg).Sq (aa.Kp WF Ec.own hg) aeM) (HC.Kp WF Ec.own hg) (HF.Kp WF Ec.own hg) λHR HC HF=>?_;obtain⟨a9,n9,c9,rfl,N'⟩:=ho.var;have HA:=I ho;clear ho hg r7;go_wp2_with fail;refine KO (an (hE.o6 Jp) (A8.trans hE)) λo9=>?_;refine rd 6 λK hK=>?_;go_simp
   (go_at_call 197;refine PP (fZ k 0 j0) λx6 v6 JG Hg=>?_;obtain⟨a6,n6,c6,rfl,Ia⟩:=JG.var;have HB:=I JG;have HZ:=I Hg;have Sl:=I hE;have hE:=hE.trans Hg;have HF:=I (HF.ext Hg);clear JG)
   go_wp2_with fail;refine KO (an (hE.o6 Jp) (A8.trans hE)) λo9=>?_;refine rd 8 λK hK=>?_;refine aO _ _ j9 x3 (GI a6 n6 c6) _ j9 HB.o _ 1 _ [1] j9 HF.ints m9 HZ.size ?_;intro v8 x8 ho hg r7;have MY:=I (aj HZ.o hg λj hj=>(HB.lt j hj).1);have hE:=Sl.trans MY.o;obtain⟨a8,m8,Z,rfl,aeR⟩:=ho.var;have OC:=I ho;have⟨Eb,Eh,FZ,Ip⟩:=fL (DO _ hE);clear ho hg r7;go_wp2_with fail;refine KO (an (hE.o6 Jp) (A8.trans hE)) λo9=>?_;refine t8 (show bZ x8 W (GI a9 n9 c9) _ from⟨_,HA.ext MY.o,HR.ext MY.o⟩) (HC.ext MY) (OC.mono Sl.size) λRj Zn Mg=>?_;have W4:=λu0 u1 u2=>(((HXG.trans hE).store (b:=w.heap.size+1) 0 (wZ MB) u0).store (b:=w.heap.size+1) 1 (wZ MB) u1).store (b:=w.heap.size+1) 2 (wZ MB) u2;refine tk 10 ?_;refine rd 11 λK hK=>?_;go_simp;refine hK.out _ _ ?_ (λo9=>?_)
   ·exact y8
   clear hK K
   try simp only[Act.put,sA,sB,sC]
   refine tk 12 ?_;refine Pi j8 ?_ _;go_wp2;refine Fn (v:=.tuple #[Ig a9 n9 c9 a8 m8 Z (some (O gc 0)) n8 c8,bl true]) TI rfl ⟨⟨_,_,_,_,_,_,_,_,_,rfl,λ_=>mv Rz Mg.o Zn.o (λb hb=>jp _ _ _ _ (k8 DW.o))⟩,(((A8.trans hE).store 0 (b7 _) _).store 1 (b7 _) _).store 2 (b7 _) _⟩
  refine Rg (λK hK=>?_) WW
     
  go_simp;refine hK.out _ _ ?_ (λo9=>?_)
  ·exact Tk
  clear hK K
  try simp only[Act.put,sA,sB,sC]
  have⟨H,Hm⟩:=e9 (x0.alloc (QD #[U 1] 3));have E:C7 x0 H:=by rw[Hm];exact WU
  have HF:=I (show r' H W (EQ x0 1 1) [1]by rw[Hm];exact r'.VD _ _ _ hE.size);rw[<-Hm]at o9;rw[<-Hm];clear Hm;have hE:=hE.trans E;generalize x0.heap.size=g7 at HF⊢;refine t8 (Ec.ext E) (aa.ext E) (HC.ext E) λEc aa HC=>?_;clear E;refine rd 2 λK hK=>?_;go_simp;refine hK.out _ _ ?_ (λo9=>?_)
  ·exact Tk
  clear hK K
  try simp only[Act.put,sA,sB,sC]
  have⟨x2,C4⟩:=e9 (H.alloc (QD #[EQ gl nl cl] 29));have e2:C7 H x2:=by rw[C4];exact WU
  have Kl:=I (show x2.cell? (O H 0)=some (EQ gl nl cl)by rw[C4];simp);rw[<-C4]at o9;rw[<-C4];clear C4;have hE:=hE.trans e2;generalize H.heap.size=g2 at Kl⊢;refine Op (Ec.ext e2) (aa.ext e2) (HC.ext e2) (HF.ext e2) λEc aa HC HF=>?_;clear e2;refine rd 3 λK hK=>?_;refine du _ _ j9 W (GI a4 k c4) vs j9 Ec.own _ _ 1 j9 Kl.o rfl (k8 N1.o) hE.size ?_;intro v3 x3 ho hg r7;have hE:C7 W x3:=aj hE hg (λj hj=>(Ec.own.lt j hj).1);refine t8 ((Ec.rows.Gx Ec.own hg).Sq (aa.Kp WF Ec.own hg) aeM) (HC.Kp WF Ec.own hg) (HF.Kp WF Ec.own hg) λHR HC HF=>?_;obtain⟨a9,n9,c9,rfl,N'⟩:=ho.var;have HA:=I ho;clear ho hg r7;go_wp2_with fail;refine KO (an (hE.o6 Jp) (A8.trans hE)) λo9=>?_;refine rd 6 λK hK=>?_;go_simp
  (go_at_call 197;refine PP (fZ k 0 j0) λx6 v6 JG Hg=>?_;obtain⟨a6,n6,c6,rfl,Ia⟩:=JG.var;have HB:=I JG;have HZ:=I Hg;have Sl:=I hE;have hE:=hE.trans Hg;have HF:=I (HF.ext Hg);clear JG)
  go_wp2_with fail;refine KO (an (hE.o6 Jp) (A8.trans hE)) λo9=>?_;refine rd 8 λK hK=>?_;refine aO _ _ j9 x3 (GI a6 n6 c6) _ j9 HB.o _ 1 _ [1] j9 HF.ints m9 HZ.size ?_;intro v8 x8 ho hg r7;have MY:=I (aj HZ.o hg λj hj=>(HB.lt j hj).1);have hE:=Sl.trans MY.o;obtain⟨a8,m8,Z,rfl,aeR⟩:=ho.var;have OC:=I ho;have⟨Eb,Eh,FZ,Ip⟩:=fL (DO _ hE);clear ho hg r7;go_wp2_with fail;refine KO (an (hE.o6 Jp) (A8.trans hE)) λo9=>?_;refine t8 (show bZ x8 W (GI a9 n9 c9) _ from⟨_,HA.ext MY.o,HR.ext MY.o⟩) (HC.ext MY) (OC.mono Sl.size) λRj Zn Mg=>?_;have W4:=λu0 u1 u2=>(((HXG.trans hE).store (b:=w.heap.size+1) 0 (wZ MB) u0).store (b:=w.heap.size+1) 1 (wZ MB) u1).store (b:=w.heap.size+1) 2 (wZ MB) u2;refine tk 10 ?_;refine rd 11 λK hK=>?_;go_simp;refine hK.out _ _ ?_ (λo9=>?_)
  ·exact y8
  clear hK K
  try simp only[Act.put,sA,sB,sC]
  refine tk 12 ?_;refine Pi j8 ?_ _;go_wp2;refine Fn (v:=.tuple #[Ig a9 n9 c9 a8 m8 Z (some (O gc 0)) n8 c8,bl true]) TI rfl ⟨⟨_,_,_,_,_,_,_,_,_,rfl,λ_=>mv Rz Mg.o Zn.o (λb hb=>jp _ _ _ _ (k8 DW.o))⟩,(((A8.trans hE).store 0 (b7 _) _).store 1 (b7 _) _).store 2 (b7 _) _⟩
 have hp2':(q:Int)<2:=j0;have aeO:=I (λe w' h1 h2=>Hp.o e w' h1 h2 (by rw[Ok Oh];rfl));clear Oh;go_in
 go_upto_region 1 with fail;rw[<-hW];clear hW;have k0:=Jp.o;have k1:=Zh.o;go_wp2_with fail;refine i7 HC λw1 A'=>?_;clear k0 k1;have D1:=A'.o6 Jp.o;have⟨Eb,Eh,FZ,Ip⟩:=fL (DO w1 A');have A0:=I A';go_wp2;refine Fn (v:=.tuple #[.agg #[d6,d6,d6],bl false]) TI rfl (aeO _ _ ((((A8.trans A0).store 0 j0 _).store 1 j0 _).store 2 j0 _) rfl)
theorem Kc{w':J}{H:Nat}{a1 a2 Z K a0 v0 v1 v2 v3 v4:arQ}{P:Prop}{Q:Prop}(h:w'.cell? (O H 1)=some a1/\w'.cell? (O H 2)=some a2/\w'.cell? (O H 4)=some Z/\w'.cell? (O H 5)=some K/\w'.cell? (O r 0)=some a0/\P)(hb:r+1<H)(hq:Q):
 let y:=((((w'.setCell (O (r+1) 0) v0).setCell (O (r+1) 1) v1).setCell (O (r+1) 2) v2).setCell (O (r+1) 3) v3).setCell (O (r+1) 4) v4
 y.cell? (O H 1)=some a1/\y.cell? (O H 2)=some a2/\y.cell? (O H 4)=some Z/\y.cell? (O H 5)=some K/\y.cell? (O r 0)=some a0/\Q:=by
 have G:∀(x:J) (b o c:Nat) (v:arQ),b≠r+1->(x.setCell (O (r+1) c) v).cell? (O b o)=x.cell? (O b o):=λx b o c v E=>by have:=GE x (O (r+1) c) b v E;unfold World.cell?;simp only[this]
 have k5:∀b o,b≠r+1->(((((w'.setCell (O (r+1) 0) v0).setCell (O (r+1) 1) v1).setCell (O (r+1) 2) v2).setCell (O (r+1) 3) v3).setCell (O (r+1) 4) v4).cell? (O b o)=w'.cell? (O b o):=λb o E=>by
  rw[G _ _ _ _ _ E,G _ _ _ _ _ E,G _ _ _ _ _ E,G _ _ _ _ _ E,G _ _ _ _ _ E]
 obtain⟨h1,h2,h3,h4,h5,_⟩:=h;exact⟨(k5 _ _ j0).trans h1,(k5 _ _ j0).trans h2,(k5 _ _ j0).trans h3,(k5 _ _ j0).trans h4,(k5 _ _ j0).trans h5,hq⟩
theorem rl{w:J}{p:Int}{cap:Nat}(h:d9 w a n cap V):
 Calls Tryz.prog 60 #[FS p a n cap] w λe w'=>je w' w p V e/\C7 w w':=by
 have⟨W,hW⟩:=e9 ((w.alloc (QD #[U p,GI a n cap] 31)).alloc (QD #[bl false,U 0,U 0,d6,d6] 63));have Ml:W.heap.size=w.heap.size+2:=by rw[hW];simp
 have hX:C7 w W:=by rw[hW];exact WU.trans WU
 refine z6 (show W.heap[w.heap.size+1]?=some (QD #[bl false,U 0,U 0,d6,d6] 63 (0,0))by rw[hW];exact IO j7) (show W.cell? (O w 0)=some (U p)by rw[hW];exact C7.o6 WU j7) (show W.cell? (O w 1)=some (GI a n cap)by rw[hW];exact C7.o6 WU j7) (h.ext hX) hX h.hlen λDO I9 Jt HI HX HVL=>?_;refine Op (Cr (p:=p) HI) (λ(w':J) (hx:C7 W w') (v0 v1 v2 v3 v4:arQ)=>NU (ZM ((hx.block _ j0).trans DO) v0 v1 v2 v3 v4)) (λ(w':J) (hx:C7 W w') (v0 v1 v2 v3 v4:arQ)=>oO (r:=w.heap.size+1) (HX.trans hx) (b7 _) v0 v1 v2 v3 v4) (λ(w':J) (hx:C7 W w')=>NU ((hx.block _ j0).trans DO)) λEW Fi JU KV=>?_;clear h hX;cases hgo:ak p V&&decide (2<=p)
 ·have qq0:=@OW;exact f'
 rw[hgo]at EW;have⟨Q',Oh⟩:=fl hgo;have Oh:=uf Oh;have⟨r,Eb⟩:=e9 (bG az (eZ p.toNat n) (fV p.toNat) (dQ p V));have Fv:=I Eb;have Fb:=I (show iT p V=r by unfold iT;rw[HVL.o,<-Eb]);have HLO:=I (show Jb p V=decide (r.status=1)by unfold Jb;rw[hgo,Fb.o];rfl);obtain⟨q,D4,Hh,JF,QE,_,Mx⟩:=ap Q';subst D4;have HGK:=I Q';have IB:2<=q:=j0;clear hgo QE Mx Q' Eb Oh;go_in
 go_wp2_with fail;rw[<-hW];refine EW.mono ?_;rintro e w1 ⟨⟨la,KB,KF,lb,KA,KE,lc,Kz,KD,rfl,Om⟩,hx⟩;unfold Ig;have⟨w2,hw2⟩:=e9 (w1.alloc (bT la KB KF lb KA KE lc Kz KD));have C4:C7 w1 w2:=by rw[hw2];exact WU
 have X2:=I (hx.trans C4);have Ff:=I (kY ((Om rfl).ext C4));rw[<-Fv.o]at Ff;have Oq:w2.heap[w1.heap.size]?=some (QD #[GI la KB KF,GI lb KA KE,GI lc Kz KD] 105 (0,0)):=by rw[hw2];exact IO rfl
 have⟨t0,t1,t2⟩:=gl Oq;go_upto_region 2 with fail;rw[<-hw2];clear hx C4 Om hw2 hW Oq;go_wp2_with fail;refine Ff.mono ?_
 have F4:=I (λ(hs:r.status=1)=>show JL r.Y=q+1/\z7 r.value=true/\∀k,k<JL r.Y->z7 (r.Y[k]?.getD (0,0))=true by
  have:=fu (bound:=az) (A:=eZ (q:Int).toNat n) (B:=fV (q:Int).toNat) (C:=dQ (q:Int) V) rj;rw[<-Fv.o]at this;refine⟨?_,this.2.2.2.2⟩;rw[this.2.2.2.1,gg];unfold fV;simp)
 rintro e w3 ⟨⟨H,E,G,ya,yn,yc,ra,rn,rc,rfl,Ka⟩,B5⟩;have⟨w4,FY⟩:=e9 (w3.alloc (cZ r H E G ya yn yc ra rn rc));have DN:C7 w3 w4:=by rw[FY];exact WU
 refine t8 ((X2.trans B5).trans DN) (Ka.here.ext DN) (show w4.heap[w3.heap.size]?=some (cZ r H E G ya yn yc ra rn rc)by rw[FY];exact IO rfl) λX4 Ft Ek=>?_;obtain⟨rs,rX,rY,rr,⟨Ei,D6⟩,rp⟩:=r;unfold H8;go_upto_region 5 with fail;rw[<-FY];have JP:=I (show w.heap.size+1<w3.heap.size by have:=(X2.trans B5).size;omega);clear Ka B5 DN FY t0 t1 t2;generalize w3.heap.size=b5 at Ek JP⊢;have⟨l0,l1,l2,l3,l4,l5,l6,lf⟩:=Ef Ek.o
 try simp only at l0 l1 l2 l3 l4 l5 l6
 by_cases hs:rs=1
 ·subst hs;have⟨MH,Q1,JB⟩:=F4.o rfl
  try simp only at MH Q1 JB
  have FG:=aU Q1;have HNG:=I (λw'=>eX Ei D6 w' j0 j0);have Ye:=I JB
  try simp only at FG
  have Rm:b9 (i6 w4 ya yn yc rY):=Ft.y;have MZ:=I (show yn=q+1 by rw[<-MH];exact Ft.y.hlen.symm);have hqy:q<=yn:=k8 MZ.o;have⟨hyc,hym⟩:=Ft.y.aq9;have hqyc:q<=yc:=j0;have⟨nv,Z⟩:=e9 (-Ei);simp only[<-Z]at HNG;have HNV:=I Z;have S0:=I (λ(w':J) (hx:C7 w4 w')=>mp ((Rm.ext hx).take hqy) j0 (λk=>by
   by_cases hk:k<JL (rY.take q)
   ·rw[k6]at hk;have:=aU (Ye k j0);rw[bB j0];omega
   rw[q8 j0];simp))
  have c0:=X4.o6 I9.o;have hk:=C7.drew w4;have Sf:=I (λ(w':J) (hx:C7 w4 w')=>(⟨hx.o6 l1,hx.o6 l2,hx.o6 l4,hx.o6 l5,hx.o6 c0,HX.trans (X4.trans hx)⟩:w'.cell? (O b5 1)=some (GI H E G)/\w'.cell? (O b5 2)=some (GI ya yn yc)/\w'.cell? (O b5 4)=some (U Ei)/\w'.cell? (O b5 5)=some (U D6)/\w'.cell? (O w 0)=some (U q)/\C7 w w'));have Mn:=X4.size;clear MH Q1 JB FG Z;go_upto_region 7 with fail;refine mc Sf hk λo9=>?_
  refine tk 0 ?_;refine tk 1 ?_;refine PV ⟨?_⟩;refine tk 7 ?_;refine tk 9 ?_;refine tk 10 ?_;refine rd 2 λK hK=>?_;go_simp
  (go_at_call 129;refine IR (HNG _) λw6 Hg=>?_;have hk:=hk.trans Hg)
  go_wp2_with fail;refine KO (Sf _ hk) λo9=>?_;refine rd 8 λK hK=>?_;go_simp
  (go_at_call 130;refine PP (S0 _ hk) λw7 v7 Qv Hm=>?_;obtain⟨pa,pn,pc,rfl,My⟩:=Qv.var;have II:=I (Qv.mono hk.size);have hk:=hk.trans Hm;have⟨q0,q1,q2,q3,q4,qf⟩:=KV.o w7 (X4.trans hk);clear Qv)
  go_wp2_with fail;refine KO (Sf _ hk) λo9=>?_;have HPW:=I (show WV (((((w7.setCell (O (w+1) 0) (bl true)).setCell (O (w+1) 1) (U nv)).setCell (O (w+1) 2) (U D6)).setCell (O (w+1) 3) (GI pa pn pc)).setCell (O (w+1) 4) (GI H E G)) w (GI pa pn pc) (MG (q:Int) V)by
   have e:MG (q:Int) V=(rY.take q).map C5:=by unfold MG;rw[Fb.o];rfl
   rw[e];have TZ:=X4.size;exact(II.keep λb hb=>by
    have:=(II.lt b hb).1;rw[GE _ _ _ _ m9,GE _ _ _ _ m9,GE _ _ _ _ m9,GE _ _ _ _ m9,GE _ _ _ _ m9]).mono j0)
  obtain⟨z0,z1,z2,z3,z4,_⟩:=Fi.o w7 (X4.trans hk) (bl true) (U nv) (U D6) (GI pa pn pc) (GI H E G);have hZ:=JU.o w7 (X4.trans hk) (bl true) (U nv) (U D6) (GI pa pn pc) (GI H E G);have HS12:=I (Kc (v0:=bl true) (v1:=U nv) (v2:=U D6) (v3:=GI pa pn pc) (v4:=GI H E G) (Sf _ hk) JP.o hZ);refine tk 11 ?_;refine rd 12 λK hK=>?_;go_simp;refine KO HS12.o λo9=>?_;refine Pi j8 ?_ _;go_wp2;refine Fn (v:=.agg #[bl true,U nv,U D6,GI pa pn pc,GI H E G]) (by simp[results,OW,go_sem,q0,q1,q2,q3,q4,z0,z1,z2,z3,z4]) rfl ⟨⟨_,_,_,_,_,_,_,_,by rw[HLO.o];rfl,λ_=>⟨by rw[Fb.o,HNV.o];rfl,HPW⟩⟩,hZ⟩
 have qq0:=@OW;exact H5
end
section
def zF(p:Int)(V:o3):∀(f:Nat) (L:k9) (k:Nat),(J4 p V f L k).pt.length<=p.toNat/\(J4 p V f L k).st.length<=JL L+f*JL V
 | 0,L,k=>⟨gi _,gi _⟩
 | f+1,L,k=>by
   have E:=zF p V f (ep V L (cV p.toNat V L)) (k+1);have hl:JL (ep V L (cV p.toNat V L))<=JL L+JL V:=by
    unfold ep;rw[SW];have h1:=mD (Fj V L) (cV p.toNat V L) (JL (Fj V L));have h2:JL (Fj V L)<=JL V-2:=eG L (JL V-2);omega
   have hm:(f+1)*JL V=f*JL V+JL V:=QO _ _;unfold J4;split
   ·split
    ·refine⟨?_,?_⟩
     ·show((_:l7).map C5).length<=_;rw[dc,k6];omega
     show(ep V L (cV p.toNat V L)).length<=_;omega
    exact⟨E.1,by omega⟩
   exact⟨gi _,gi _⟩
def tB(p:Int)(V:o3):(Iw p V).pt.length<=5/\(Iw p V).st.length<=2000:=by
 unfold Iw;split
 ·next h =>
  split
  ·exact⟨by show 1<=5;omega,gi _⟩
  obtain⟨_,E,_,_,h5,_⟩:=kg h;have hb:=zF p V (JL (Fj V [])+1) [] 0;have h2:JL (Fj V [])<=JL V-2:=eG [] (JL V-2);have h3:(JL (Fj V [])+1)*JL V<=32*32:=EE j0 E;simp only[Pb]at hb;exact⟨by omega,by omega⟩
 exact⟨gi _,gi _⟩
end
section
def qo(p:Int)(V:o3)(h:Jb p V=true):JL (MG p V)<=5:=by
 unfold Jb at h;obtain⟨q,E,_,h5,_⟩:=ap (fl (fl h).1).1;unfold MG;rw[dc,k6,E,gg];omega
section
variable{w:J}{p:Int}{a b:l9}{n cap m dap:Nat}{V:o3}{X:l7}{base:Nat}
def Wh(h:σ:=by
 clear ho hx EO c0 c1 c2 cf r0 r1 r2 rf;have⟨r0,r1,r2,rf⟩:=FW.r.c;have⟨tr,FA⟩:=e9 (bs R.2);have⟨rp,G3⟩:=e9 R.1.p;rw[<-FA,<-G3];have I0:=I FA;have Mb:=I G3;clear FA G3;have⟨z0,z1,z2,HZ,XZ⟩:=FW.Eg Gl.o rp;go_wp2;refine Fn qc rfl ⟨DJ.re JQ.o Mb.o I0.o HZ.o,XZ⟩
 ):σ:=h
theorem Lt (hO : aK w base a n cap b m dap V X) (hb : base <= w.heap.size) (htab : Lib.TabIs prog w "internal/strconv.uint64pow10" .u64 Lib.pow10Tab) (t : List UInt8) (h : So t = 0) :
 Calls prog 26 #[sess p a n cap b m dap,aE (bs t)] w λe w'=>DJ w' base e (Fz ⟨p,V,X⟩ 0)/\C7 w w':=by
 have⟨e0,e1,e2,e3,e4,e5,e6,e7,e8⟩:=w9 t;simp only[h,Nat.reduceBEq]at e0 e1 e2 e3 e4 e5 e6 e7 e8;generalize bs t=tt at e0 e1 e2 e3 e4 e5 e6 e7 e8⊢;have⟨W,hW,HT,HO,⟨c0,c1,c2,cf⟩,r0,r1,r2,rf⟩:=fR p hO;have HTB:=I htab;have I2:=I hb;have Ff:=lM (w:=W) (x:=p) HO.v.ints;have⟨ok,DL⟩:=e9 (ak p V);have⟨P,hP⟩:=e9 (fP p V);have Gn:=I (show Fz ⟨p,V,X⟩ 0=dN ⟨p,V,X⟩ P ok by rw[DL,hP];rfl);have I8:=I (show JL P<=5 by rw[hP];exact ou p V);rw[<-DL,<-hP]at Ff;have Ff:=I Ff;clear DL hP;clear htab hb h;clear hO;go_in
 go_upto_region 1 with fail;rw[<-hW];clear hW;go_wp2_with fail;refine TS Ff λw1 v ho hx=>?_;obtain⟨pa,pn,pc,rfl,HN⟩:=ho.var;have Jn:b9 (ok=true->WV w1 base (GI pa pn pc) P/\pn<=100000):=I λ_=>⟨ho.mono (fy I2.o HT.x.size),by have h1:=HN.o;have h2:=I8.o;omega⟩;clear c0 c1 c2 cf r0 r1 r2 rf;have⟨HT1,HO1,⟨c0,c1,c2,cf⟩,r0,r1,r2,rf⟩:=Uz HT HO hx;clear hx;clear ho HN;have⟨R,hR⟩:=e9 (dN ⟨p,V,X⟩ P ok);have EO:=I (jL (p:=p) HO1.o (pa:=pa) (pn:=pn) (pc:=pc) (P:=P) (ok:=ok) Jn.o (ec HTB.o HT1.x));rw[<-hR]at EO;have JQ:=I (Gn.trans hR.symm);clear hR;go_wp2_with fail;refine EO.mono ?_;rintro e w9 ⟨⟨a',n',k',b',m',d',rfl,ho⟩,hx⟩;have FW:=I (HT1.ext hx);have Gl:=I ho;have qq0:=@xi;exact Wh
theorem JE (hO : aK w base a n cap b m dap V X) (hb : base <= w.heap.size) (htab : Lib.TabIs prog w "internal/strconv.uint64pow10" .u64 Lib.pow10Tab) (t : List UInt8) (h : So t = 1) :
 Calls prog 26 #[sess p a n cap b m dap,aE (bs t)] w λe w'=>DJ w' base e (Fz ⟨p,V,X⟩ 1)/\C7 w w':=by
 have⟨e0,e1,e2,e3,e4,e5,e6,e7,e8⟩:=w9 t;simp only[h,Nat.reduceBEq]at e0 e1 e2 e3 e4 e5 e6 e7 e8;generalize bs t=tt at e0 e1 e2 e3 e4 e5 e6 e7 e8⊢;have⟨W,hW,HT,HO,⟨c0,c1,c2,cf⟩,r0,r1,r2,rf⟩:=fR p hO;have HTB:=I htab;have I2:=I hb;have Ff:=sV (w:=W) (x:=p) HO.v.ints;have⟨ok,DL⟩:=e9 (ak p V);have⟨P,hP⟩:=e9 (ig p V);have Gn:=I (show Fz ⟨p,V,X⟩ 1=dN ⟨p,V,X⟩ P ok by rw[DL,hP];rfl);have I8:=I (show JL P<=5 by rw[hP];exact nu p V);rw[<-DL,<-hP]at Ff;have Ff:=I Ff;clear DL hP;clear htab hb h;clear hO;go_in
 go_upto_region 1 with fail;rw[<-hW];clear hW;go_wp2_with fail;refine TS Ff λw1 v ho hx=>?_;obtain⟨pa,pn,pc,rfl,HN⟩:=ho.var;have Jn:b9 (ok=true->WV w1 base (GI pa pn pc) P/\pn<=100000):=I λ_=>⟨ho.mono (fy I2.o HT.x.size),by have h1:=HN.o;have h2:=I8.o;omega⟩;clear c0 c1 c2 cf r0 r1 r2 rf;have⟨HT1,HO1,⟨c0,c1,c2,cf⟩,r0,r1,r2,rf⟩:=Uz HT HO hx;clear hx;clear ho HN;have⟨R,hR⟩:=e9 (dN ⟨p,V,X⟩ P ok);have EO:=I (jL (p:=p) HO1.o (pa:=pa) (pn:=pn) (pc:=pc) (P:=P) (ok:=ok) Jn.o (ec HTB.o HT1.x));rw[<-hR]at EO;have JQ:=I (Gn.trans hR.symm);clear hR;go_wp2_with fail;refine EO.mono ?_;rintro e w9 ⟨⟨a',n',k',b',m',d',rfl,ho⟩,hx⟩;have FW:=I (HT1.ext hx);have Gl:=I ho;have qq0:=@xi;exact Wh
theorem o0 (hO : aK w base a n cap b m dap V X) (hb : base <= w.heap.size) (htab : Lib.TabIs prog w "internal/strconv.uint64pow10" .u64 Lib.pow10Tab) (t : List UInt8) (h : So t = 2) :
 Calls prog 26 #[sess p a n cap b m dap,aE (bs t)] w λe w'=>DJ w' base e (Fz ⟨p,V,X⟩ 2)/\C7 w w':=by
 have⟨e0,e1,e2,e3,e4,e5,e6,e7,e8⟩:=w9 t;simp only[h,Nat.reduceBEq]at e0 e1 e2 e3 e4 e5 e6 e7 e8;generalize bs t=tt at e0 e1 e2 e3 e4 e5 e6 e7 e8⊢;have⟨W,hW,HT,HO,⟨c0,c1,c2,cf⟩,r0,r1,r2,rf⟩:=fR p hO;have HTB:=I htab;have I2:=I hb;have Ff:=rl (w:=W) (p:=p) HO.v.ints;have I8:=qo p V;unfold je at Ff;have⟨ok,DL⟩:=e9 (Jb p V);have⟨P,hP⟩:=e9 (MG p V);have Gn:=I (show Fz ⟨p,V,X⟩ 2=dN ⟨p,V,X⟩ P ok by rw[DL,hP];rfl);rw[<-DL,<-hP]at Ff I8;have Ff:=I Ff;have I8:=I I8;clear DL hP;clear htab hb h;clear hO;go_in
 go_upto_region 1 with fail;rw[<-hW];clear hW;go_wp2_with fail;refine Ff.mono ?_;rintro e w1 ⟨⟨x,y,pa,pn,pc,wa,wn,wc,rfl,ho⟩,hx⟩;refine Op (show ok=true->WV (w1.alloc (QD #[bl ok,U x,U y,GI pa pn pc,GI wa wn wc] 63)) base (GI pa pn pc) P/\pn<=100000 from λhh=>⟨((ho hh).2.ext WU).mono (fy I2.o HT.x.size),by have h1:=(ho hh).2.rats.hlen;have h2:=I8.o hh;omega⟩) (ai w1 (QD #[bl ok,U x,U y,GI pa pn pc,GI wa wn wc] 63) _ rfl) ((HT.ext hx).ext (C7.alloc w1 (QD #[bl ok,U x,U y,GI pa pn pc,GI wa wn wc] 63))) ((HO.ext hx).ext (C7.alloc w1 (QD #[bl ok,U x,U y,GI pa pn pc,GI wa wn wc] 63))) λJn HB HT1 HO1=>?_;have⟨w2,hw2⟩:=e9 (w1.alloc (QD #[bl ok,U x,U y,GI pa pn pc,GI wa wn wc] 63));rw[<-hw2]at Jn HB HT1 HO1;go_upto_region 10 with fail;rw[<-hw2];clear hw2 hx c0 c1 c2 cf r0 r1 r2 rf;have⟨d0,d1,d2,d3,d4,df⟩:=NU HB.o;clear ho;have⟨c0,c1,c2,cf⟩:=HT1.s.c;have⟨r0,r1,r2,rf⟩:=HT1.r.c;have⟨R,hR⟩:=e9 (dN ⟨p,V,X⟩ P ok)
 have EO:=I (jL (p:=p) HO1.o (pa:=pa) (pn:=pn) (pc:=pc) (P:=P) (ok:=ok) Jn.o (ec HTB.o HT1.x));rw[<-hR]at EO;have JQ:=I (Gn.trans hR.symm);clear hR;go_wp2_with fail;refine EO.mono ?_;rintro e w9 ⟨⟨a',n',k',b',m',d',rfl,ho⟩,hx⟩;have FW:=I (HT1.ext hx);have Gl:=I ho;have qq0:=@xi;exact Wh
theorem ti (hO : aK w base a n cap b m dap V X) (hb : base <= w.heap.size) (htab : Lib.TabIs prog w "internal/strconv.uint64pow10" .u64 Lib.pow10Tab) (t : List UInt8) (h : So t = 3) :
 Calls prog 26 #[sess p a n cap b m dap,aE (bs t)] w λe w'=>DJ w' base e (Fz ⟨p,V,X⟩ 3)/\C7 w w':=by
 have⟨e0,e1,e2,e3,e4,e5,e6,e7,e8⟩:=w9 t;simp only[h,Nat.reduceBEq]at e0 e1 e2 e3 e4 e5 e6 e7 e8;generalize bs t=tt at e0 e1 e2 e3 e4 e5 e6 e7 e8⊢;have⟨W,hW,HT,HO,⟨c0,c1,c2,cf⟩,r0,r1,r2,rf⟩:=fR p hO;have HTB:=I htab;have I2:=I hb;have Ff:=rm (w:=W) (p:=p) HO.v.ints;have I8:=(tB p V).1;have⟨N,hN⟩:=e9 (Iw p V);have Gn:=show Fz ⟨p,V,X⟩ 3=dN ⟨p,V,X⟩ N.pt N.ok by rw[hN];rfl
 rw[<-hN]at Ff I8;clear hN;obtain⟨ok,P,st,ro⟩:=N;refine t8 Ff (show JL P<=5 from I8) (show Fz ⟨p,V,X⟩ 3=dN ⟨p,V,X⟩ P ok from Gn) λFf I8 Gn=>?_;clear htab hb h;clear hO;go_in
 go_upto_region 1 with fail;rw[<-hW];clear hW;go_wp2_with fail;refine Ff.mono ?_;rintro e w1 ⟨⟨pa,pn,pc,sa,sn,sc,rfl,ho,_⟩,hx⟩;refine Op (show ok=true->WV (w1.alloc (QD #[bl ok,GI pa pn pc,GI sa sn sc,U ((ro:Nat):Int)] 67)) base (GI pa pn pc) P/\pn<=100000 from λ_=>⟨(ho.ext WU).mono (fy I2.o HT.x.size),by have h1:JL P=pn:=ho.rats.hlen;have h2:=I8.o;omega⟩) (ai w1 (QD #[bl ok,GI pa pn pc,GI sa sn sc,U ((ro:Nat):Int)] 67) _ rfl) ((HT.ext hx).ext (C7.alloc w1 (QD #[bl ok,GI pa pn pc,GI sa sn sc,U ((ro:Nat):Int)] 67))) ((HO.ext hx).ext (C7.alloc w1 (QD #[bl ok,GI pa pn pc,GI sa sn sc,U ((ro:Nat):Int)] 67))) λJn HB HT1 HO1=>?_;have⟨w2,hw2⟩:=e9 (w1.alloc (QD #[bl ok,GI pa pn pc,GI sa sn sc,U ((ro:Nat):Int)] 67));rw[<-hw2]at Jn HB HT1 HO1;go_upto_region 13 with fail;rw[<-hw2];clear hw2 hx c0 c1 c2 cf r0 r1 r2 rf;have⟨d0,d1,d2,d3,df⟩:=GO HB.o;clear ho;have⟨c0,c1,c2,cf⟩:=HT1.s.c;have⟨r0,r1,r2,rf⟩:=HT1.r.c;have⟨R,hR⟩:=e9 (dN ⟨p,V,X⟩ P ok)
 have EO:=I (jL (p:=p) HO1.o (pa:=pa) (pn:=pn) (pc:=pc) (P:=P) (ok:=ok) Jn.o (ec HTB.o HT1.x));rw[<-hR]at EO;have JQ:=I (Gn.trans hR.symm);clear hR;go_wp2_with fail;refine EO.mono ?_;rintro e w9 ⟨⟨a',n',k',b',m',d',rfl,ho⟩,hx⟩;have FW:=I (HT1.ext hx);have Gl:=I ho;have qq0:=@xi;exact Wh
end
def vN(s:St):∃c:Nat,c<4/\iC s=(c:Int):=by
 unfold iC fd
 repeat' split
 all_goals first|exact⟨0,by decide,rfl⟩|exact⟨1,by decide,rfl⟩|exact⟨2,by decide,rfl⟩|exact⟨3,by decide,rfl⟩
def rL{s:St}(h:iC s=1):JL (jx s)<=5:=by
 unfold iC fd at h;split at h
 ·cases h
 next hg =>
 split at h
 ·cases h
 next hs =>
 obtain⟨q,E,_,G,_⟩:=ap (show ak s.p s.V=true by simpa using hg);have H:=(fu (Decidable.not_not.1 hs)).2.2.2.1;unfold jx aS Pz;rw[k7,dc,H];unfold dY;rw[G6,E,gg];exact G
def wf(p:Nat)(V:o3):JL (ed p V)<=2000:=by
 unfold ed;split
 ·next h =>
  obtain⟨q,hq,Hh,E,hlen,_,hb⟩:=ap h;have h1:=jO (V:=V) (λj=>by have:=dp hb j;omega) (JL V);have h2:=bp q E;have h3:=sO (n:=p) j0;unfold fp;simp only[SW,nR,Pb];omega
 simp
def iu(l:List UInt8)(b:Bool):JL (eA l b)<=JL l+1:=by
 unfold eA;split
 ·omega
 simp
def Rs{w:J}{r c:Nat}(h:c≠r)(x y z:arQ)(o:Nat):(E' w r x y z).cell? (O c o)=w.cell? (O c o):=kQ (by
 rw[GE _ _ _ _ h,GE _ _ _ _ h,GE _ _ _ _ h]) o
def vd{p:Int}{V:o3}{X:l7}{q:o4}{C:o3}(h:fA p V X=some (q,C)):(∀c∈C,∃s:Nat,s<32/\c=s)/\JL C<=32:=by
 unfold fA at h;cases hA:ET p V X with
 | none=>rw[hA]at h;cases h
 | some l =>
   rw[hA]at h;simp only at h;split at h
   ·cases h
   have⟨E,hl⟩:=dO hA;obtain⟨k,_,h1,G,hlen,_,_⟩:=ap (dU E);have hk:=(bp k G).2;cases h;exact⟨λc hc=>by have:=Bi hc;exact⟨c.toNat,by omega,by omega⟩,by have:=mH l (ei l (JL l)) (JL l);omega⟩
def vg{w:J}{a b:l9}{n m cap dap:Nat}{X Y:l7}(E:i6 w a n cap X)(hY:i6 w b m dap Y):
 f8 66 #[GI a n cap,GI b m dap] w (bl (decide (X=Y))):=by
 have H:=I (Aw E hY);clear E hY;unfold f8;go_in
 go_wp2_with fail;refine i7 H λw2 hx=>?_;have G:=I hx.ext;go_wp2;go_ret;exact⟨rfl,G⟩
section
variable{w:J}{p:Int}{a b:l9}{n cap m dap:Nat}{V:o3}{X:l7}{base:Nat}
theorem H3 (hO : aK w base a n cap b m dap V X) (hb : base <= w.heap.size) (htab : Lib.TabIs prog w "internal/strconv.uint64pow10" .u64 Lib.pow10Tab) (t : List UInt8) (h : So t = 4) :
 Calls prog 26 #[sess p a n cap b m dap,aE (bs t)] w λe w'=>DJ w' base e (Fz ⟨p,V,X⟩ 4)/\C7 w w':=by
 have⟨e0,e1,e2,e3,e4,e5,e6,e7,e8⟩:=w9 t;simp only[h,Nat.reduceBEq]at e0 e1 e2 e3 e4 e5 e6 e7 e8;have⟨tt,Es⟩:=e9 (bs t);rw[<-Es]at e0 e1 e2 e3 e4 e5 e6 e7 e8⊢;have⟨W,hW,HT,HO,⟨c0,c1,c2,cf⟩,r0,r1,r2,rf⟩:=fR p hO;have HTB:=I htab;have I2:=I hb;have⟨c,hc4,MO⟩:=vN ⟨p,V,X⟩;have LR:=HO.v.ints.hlen;have⟨P,hP⟩:=e9 (jx ⟨p,V,X⟩);have Ff:=I (show Calls prog 62 #[FS p a n cap] W λe w'=>(∃pa pn pc wa wn wc,e=ar (.agg #[U c,GI pa pn pc,GI wa wn wc])/\(c=1->WV w' W (GI pa pn pc) P))/\C7 W w' by
  refine(AN (p:=p) HO.v.ints).mono ?_;rintro e w' ⟨⟨pa,pn,pc,wa,wn,wc,rfl,ho⟩,hx⟩;rw[<-LR]at ho⊢;refine⟨⟨pa,pn,pc,wa,wn,wc,by rw[<-MO];rfl,λh1=>by rw[hP];exact ho (MO.trans (by rw[h1];rfl))⟩,hx⟩)
 have Sm:=I (λ(w':J)=>AL (w:=w') c hc4);have Gn:=I (show Fz ⟨p,V,X⟩ 4=(if c=1 then⟨p,V,P⟩ else⟨p,V,X⟩,ij (c:Int))by
  show(if iC ⟨p,V,X⟩=1 then(⟨p,V,jx ⟨p,V,X⟩⟩:St) else⟨p,V,X⟩,ij (iC ⟨p,V,X⟩))=_;rw[MO,<-hP];by_cases h1:c=1
  ·rw[f9 h1,f9 j0]
  rw[f7 h1,f7 j0])
 have⟨tx,HTX⟩:=GT (bs (ij (c:Int)));simp only[<-HTX.o]at Sm;clear MO hP LR;clear htab hb Es h;clear hO;go_in
 go_upto_region 1 with fail;rw[<-hW];clear hW;go_wp2_with fail;refine Ff.mono ?_;rintro e w1 ⟨⟨pa,pn,pc,wa,wn,wc,rfl,ho⟩,hx⟩;refine ns (show c=1->WV (w1.alloc (QD #[U c,GI pa pn pc,GI wa wn wc] 71)) base (GI pa pn pc) P from λh1=>((ho h1).mono (fy I2.o HT.x.size)).ext WU) (ai w1 (QD #[U c,GI pa pn pc,GI wa wn wc] 71) _ rfl) ((HT.ext hx).ext (C7.alloc w1 (QD #[U c,GI pa pn pc,GI wa wn wc] 71))) ((HO.ext hx).ext (C7.alloc w1 (QD #[U c,GI pa pn pc,GI wa wn wc] 71))) (show w.heap.size+1<w1.heap.size from Pw (In HT.r) hx.size) λJn HB HT1 HO1 HG=>?_;have⟨w2,hw2⟩:=e9 (w1.alloc (QD #[U c,GI pa pn pc,GI wa wn wc] 71));rw[<-hw2]at Jn HB HT1 HO1;go_upto_region 16 with fail;rw[<-hw2];clear hw2 hx ho c0 c1 c2 cf r0 r1 r2 rf;generalize w1.heap.size=g at HB HG⊢;have⟨d0,d1,d2,df⟩:=fL HB.o;have⟨c0,c1,c2,cf⟩:=HT1.s.c
 go_upto_if 84 with fail
 go_cut [4] (λv wx=>v=aP (some (O (w+1) 0))/\∃(b4:l9) (m4 d4:Nat) (X4:l7),b9 (cq w wx p a n cap b4 m4 d4)/\b9 (aK wx base a n cap b4 m4 d4 V X4)/\b9 (wx.cell? (O g 0)=some (U c))/\b9 (Fz ⟨p,V,X⟩ 4=(⟨p,V,X4⟩,ij (c:Int))))
 case first =>
  by_cases h1:c=1
  ·subst h1;have hp:=Jn.o rfl;refine t8 (HT1.point pa pn pc) (aK.set2 (X:=P) ⟨HO1.v,hp⟩ HT1.s (GI pa pn pc)) (show(w2.setCell (O w 2) (GI pa pn pc)).cell? (O g 0)=some (U ((1:Nat):Int))from(kQ (GE _ _ _ _ WQ) 0).trans d0) λFh Ec Ju=>?_;clear hp;go_wp2;go_meet;exact⟨rfl,_,_,_,_,Fh,Ec,Ju,I (Gn.trans j7)⟩
  have hne:((c:Int) == 1)=false:=m9;go_wp2;go_meet;exact⟨rfl,_,_,_,_,HT1,HO1,I d0,I (Gn.trans (by rw[f7 h1]))⟩
 obtain⟨rfl,b4,m4,d4,X4,No,EI,HC4,JQ⟩:=hcut;clear d0 d1 d2 df c0 c1 c2 cf;have HK:=I (λ(w':J) (hk:C7 wc w')=>(⟨hk.o6 HC4.o,(No.ext hk).keep⟩:w'.cell? (O g 0)=some (U c)/\w'.cell? (O w 0)=some (U p)/\w'.cell? (O w 1)=some (GI a n cap)/\w'.cell? (O w 2)=some (GI b4 m4 d4)/\C7 w w'));have hk:=C7.drew wc;go_upto_region 18 with fail;refine mc HK hk λo9=>?_
 refine mq ⟨?_⟩;refine rd 3 λK hK=>?_;go_simp
 (go_at_call 63;refine IR (Sm _) λw5 Ey=>?_;have hk:=hk.trans Ey)
 go_wp2_with fail;refine KO (HK _ hk) λo9=>?_;have LH:=I (No.ext hk);have Rl:=I (EI.ext hk);have⟨r0,r1,r2,rf⟩:=LH.r.c;have⟨z0,z1,z2,HZ,XZ⟩:=LH.Eg Rl.o p;refine rd 4 λK hK=>?_;go_simp;refine hK.out _ _ ?_ (λo9=>?_)
 ·exact⟨(Rs (k8 HG.o) _ _ _ 0).trans (hk.o6 HC4),iI LH.o XZ.o⟩
 clear hK K
 try simp only[Act.put,sA,sB,sC]
 refine tk 5 ?_;refine Pi j8 ?_ _;go_wp2;refine Fn Xv rfl ⟨DJ.of JQ.o HTX.o HZ.o,XZ⟩
theorem gE (hO : aK w base a n cap b m dap V X) (hb : base <= w.heap.size) (htab : Lib.TabIs prog w "internal/strconv.uint64pow10" .u64 Lib.pow10Tab) (t : List UInt8) (h : So t = 5) :
 Calls prog 26 #[sess p a n cap b m dap,aE (bs t)] w λe w'=>DJ w' base e (Fz ⟨p,V,X⟩ 5)/\C7 w w':=by
 have⟨e0,e1,e2,e3,e4,e5,e6,e7,e8⟩:=w9 t;simp only[h,Nat.reduceBEq]at e0 e1 e2 e3 e4 e5 e6 e7 e8;generalize bs t=tt at e0 e1 e2 e3 e4 e5 e6 e7 e8⊢;have⟨W,hW,HT,HO,⟨c0,c1,c2,cf⟩,r0,r1,r2,rf⟩:=fR p hO;have HTB:=I htab;have I2:=I hb;have Ff:=lM (w:=W) (x:=p) HO.v.ints;have⟨ok,Fs⟩:=GT (ak p V);have⟨P,HPE⟩:=GT (fP p V);rw[<-Fs.o,<-HPE.o]at Ff;have Ff:=I Ff;clear htab hb h;clear hO;go_in
 go_upto_region 1 with fail;rw[<-hW];clear hW;go_wp2_with fail;refine TS Ff λw1 v ho hx=>?_;obtain⟨pa,pn,pc,rfl,HN⟩:=ho.var;have Jn:=I ho;clear c0 c1 c2 cf r0 r1 r2 rf;have⟨HT1,HO1,⟨c0,c1,c2,cf⟩,r0,r1,r2,rf⟩:=Uz HT HO hx;clear hx;clear ho HN c0 c1 c2 cf r0 r1 r2 rf;refine Op (λ(w':J) (hx:C7 w1 w')=>VW (p:=p) (HO1.v.ints.ext hx) (HO1.x.rats.ext hx)) (λ(w':J) (hx:C7 w1 w')=>vg (Jn.rats.ext hx) (HO1.x.rats.ext hx)) (λ(w':J) (hx:C7 w1 w')=>vi (p:=p) (HO1.v.ints.ext hx) (HO1.x.rats.ext hx)) (show Fz ⟨p,V,X⟩ 5=(⟨p,V,X⟩,eA [99,111,114,101] (fE p V X)++([32]++(eA [102,97,105,114] (ok&&decide (P=X))++([32]++eA [110,117,99,108,101,111,108,117,115] (ji p V X)))))by rw[Fs.o,HPE.o];rfl) λHIC S6 HNU Gn=>?_;have⟨B1,hB1⟩:=e9 (fE p V X);have⟨B2,PL⟩:=e9 (decide (P=X));have⟨B3,KQ⟩:=e9 (ji p V X);simp only[<-hB1]at HIC;simp only[<-PL]at S6;simp only[<-KQ]at HNU;rw[<-hB1,<-PL,<-KQ]at Gn;clear hB1 PL KQ;refine t8 (λ(w':J)=>wL (w:=w') [99,111,114,101] B1) (λ(w':J)=>wL (w:=w') [102,97,105,114] (ok&&B2)) (λ(w':J)=>wL (w:=w') [110,117,99,108,101,111,108,117,115] B3) λHW1 HW2 HW3=>?_
 have⟨u1,Kr⟩:=e9 (bs (eA [99,111,114,101] B1));have⟨u2,Q3⟩:=e9 (bs (eA [102,97,105,114] (ok&&B2)));have⟨u3,Wa⟩:=e9 (bs (eA [110,117,99,108,101,111,108,117,115] B3));have IK:u1.size<=100:=by rw[Kr,aY];have:=iu [99,111,114,101] B1;simp at this;omega
 have Nc:u2.size<=100:=by rw[Q3,aY];have:=iu [102,97,105,114] (ok&&B2);simp at this;omega
 have J8:u3.size<=100:=by rw[Wa,aY];have:=iu [110,117,99,108,101,111,108,117,115] B3;simp at this;omega
 have HTX:=I (show u1++{ data:=#[32] }++u2++{ data:=#[32] }++u3=bs (eA [99,111,114,101] B1++([32]++(eA [102,97,105,114] (ok&&B2)++([32]++eA [110,117,99,108,101,111,108,117,115] B3))))by
  rw[Kr,Q3,Wa];show bs _++bs [32]++bs _++bs [32]++bs _=_;rw[ch,ch,ch,ch];simp only[yf])
 simp only[<-Kr]at HW1;simp only[<-Q3]at HW2;simp only[<-Wa]at HW3;have Li:¬9223372036854775807<u1.size+1:=j0;have J6:¬9223372036854775807<u1.size+1+u2.size:=j0;have hz3:¬9223372036854775807<u1.size+1+u2.size+1:=j0;have hz4:¬9223372036854775807<u1.size+1+u2.size+1+u3.size:=j0;clear Kr Q3 Wa IK Nc J8;have hk:=C7.drew w1;go_upto_region 21 with fail;refine nE (S:=(λw'=>w'.cell? (O w 0)=some (U p)/\w'.cell? (O w 1)=some (GI a n cap)/\w'.cell? (O w 2)=some (GI b m dap)/\C7 w w')) j8 ?_ (λo9=>?_)
 ·exact(HT1.ext hk).keep
 refine mq ⟨?_⟩;refine tk 3 ?_;refine tk 4 ?_;refine tk 8 ?_;refine ck ⟨?_⟩;refine tk 21 ?_;refine rd 5 λK hK=>?_;go_simp
 (go_at_call 65;refine i7 (HIC _ hk) λw2 hx=>?_;have hk:=hk.trans hx)
 go_wp2_with fail;refine KO ((HT1.ext hk).keep) λo9=>?_;refine rd 6 λK hK=>?_;go_simp
 (go_at_call 64;refine i7 (HW1 _) λw3 hx=>?_;have hk:=hk.trans hx)
 go_wp2_with fail;refine KO ((HT1.ext hk).keep) λo9=>?_;refine tk 7 ?_;refine tk 9 ?_;cases ok
 case' false =>
  rw[cy]at HW2;refine tk 10 ?_;refine TK ⟨?_⟩
 case' true =>
  rw[y6]at HW2;refine tk 10 ?_;refine tk 11 ?_;refine tk 12 ?_;refine rd 13 λK hK=>?_;go_simp
  (go_at_call 66;refine i7 (S6 _ hk) λw4 hx=>?_;have hk:=hk.trans hx)
  go_wp2_with fail;refine KO ((HT1.ext hk).keep) λo9=>?_
 all_goals
  refine tk 14 ?_;refine rd 15 λK hK=>?_;go_simp
  (go_at_call 64;refine i7 (HW2 _) λw5 hx=>?_;have hk:=hk.trans hx)
  go_wp2_with fail;refine KO ((HT1.ext hk).keep) λo9=>?_;refine tk 16 ?_;refine tk 17 ?_;refine rd 22 λK hK=>?_;go_simp
  (go_at_call 67;refine i7 (HNU _ hk) λw6 hx=>?_;have hk:=hk.trans hx)
  go_wp2_with fail;refine KO ((HT1.ext hk).keep) λo9=>?_;refine rd 23 λK hK=>?_;go_simp
  (go_at_call 64;refine i7 (HW3 _) λw7 hx=>?_;have hk:=hk.trans hx)
  go_wp2_with fail;refine KO ((HT1.ext hk).keep) λo9=>?_;refine tk 24 ?_;have LH:=I (HT1.ext hk);have Rl:=I (HO1.ext hk);have⟨r0,r1,r2,rf⟩:=LH.r.c;have⟨z0,z1,z2,HZ,XZ⟩:=LH.Eg Rl.o p;refine rd 25 λK hK=>?_;go_simp;refine KO (iI LH.o XZ) λo9=>?_;refine tk 26 ?_;refine Pi j8 ?_ _;go_wp2;refine Fn Xv rfl ⟨DJ.of Gn.o HTX.o HZ.o,XZ⟩
def Zo(h:σ:=by
 refine nE (S:=(λw'=>w'.cell? (O w.heap.size 0)=some (U p)/\w'.cell? (O w.heap.size 1)=some (GI a n cap)/\w'.cell? (O w.heap.size 2)=some (GI b m dap)/\C7 w w')) j8 ?_ (λo9=>?_)
 ·exact(Fh.ext hk).keep
 refine tk 0 ?_;refine tk 1 ?_;refine rd 2 λK hK=>?_;go_simp
 (go_at_call 71;refine(S4 _ hk).mono ?_;rintro e w5 ⟨rfl,hx⟩;have hk:=hk.trans hx;clear hx)
 go_wp2_with fail;refine KO ((Fh.ext hk).keep) λo9=>?_;have LH:=I (Fh.ext hk);have Rl:=I (Ec.ext hk);have⟨r0,r1,r2,rf⟩:=LH.r.c;have⟨z0,z1,z2,HZ,XZ⟩:=LH.Eg Rl.o p;refine rd 3 λK hK=>?_;go_simp;refine KO (iI LH.o XZ) λo9=>?_;refine tk 4 ?_;refine Pi j8 ?_ _;go_wp2;refine Fn Xv rfl ⟨DJ.of M6.o Y8.o HZ.o,XZ⟩
 ):σ:=h
theorem K7 (hO : aK w base a n cap b m dap V X) (hb : base <= w.heap.size) (htab : Lib.TabIs prog w "internal/strconv.uint64pow10" .u64 Lib.pow10Tab) (t : List UInt8) (h : So t = 6) :
 Calls prog 26 #[sess p a n cap b m dap,aE (bs t)] w λe w'=>DJ w' base e (Fz ⟨p,V,X⟩ 6)/\C7 w w':=by
 have⟨e0,e1,e2,e3,e4,e5,e6,e7,e8⟩:=w9 t;simp only[h,Nat.reduceBEq]at e0 e1 e2 e3 e4 e5 e6 e7 e8;generalize bs t=tt at e0 e1 e2 e3 e4 e5 e6 e7 e8⊢;have⟨W,hW,HT,HO,⟨c0,c1,c2,cf⟩,r0,r1,r2,rf⟩:=fR p hO;have HTB:=I htab;have I2:=I hb;have Ff:=vm (w:=W) (p:=p) HO.v.ints HO.x.rats;unfold WG at Ff;have HCD:∀q C,fA p V X=some (q,C)->_:=λq C h=>vd h
 have Gn:Fz ⟨p,V,X⟩ 6=(⟨p,V,X⟩,match fA p V X with|none=>Nw|some r=>Lib.join (D' r.1::r.2.map λc=>bJ c) [32]):=rfl;obtain⟨x,y,C,B,Ff,Gn,HCD⟩:∃(x y:Int) (C:o3) (B:Bool),b9 (Calls prog 68 #[FS p a n cap,GI b m dap] W λe w'=>(∃v,e=ar (.tuple #[EF x y,v,bl B])/\r' w' W v C)/\C7 W w')/\b9 (Fz ⟨p,V,X⟩ 6=(⟨p,V,X⟩,if B=true then Lib.join (D' (x,y)::C.map λc=>bJ c) [32] else Nw))/\b9 (B=true->(∀c∈C,∃s:Nat,s<32/\c=s)/\JL C<=32):=by
  cases hr:fA p V X with
  | none=>rw[hr]at Ff Gn;exact⟨0,0,[],false,I Ff,I Gn,I (λh=>by cases h)⟩
  | some r=>rw[hr]at Ff Gn;exact⟨r.1.1,r.1.2,r.2,true,I Ff,I Gn,I (λ_=>HCD r.1 r.2 hr)⟩
 clear htab hb h;clear hO;go_in
 go_upto_region 1 with fail;rw[<-hW];clear hW;go_wp2_with fail;refine PP Ff λw1 v ho hx=>?_;obtain⟨pa,pn,pc,rfl,HN⟩:=ho.var;refine Op (ho.ints.ext (C7.alloc w1 (QD #[U x,U y] 56))) (ah.new (C7.refl w1) x y) ((HT.ext hx).ext (C7.alloc w1 (QD #[U x,U y] 56))) ((HO.ext hx).ext (C7.alloc w1 (QD #[U x,U y] 56))) λHI HB HT1 aa=>?_;have⟨w2,hw2⟩:=e9 (w1.alloc (QD #[U x,U y] 56));rw[<-hw2]at HI HB HT1 aa;go_upto_region 24 with fail;rw[<-hw2];clear hw2 ho c0 c1 c2 cf r0 r1 r2 rf;generalize w1.heap.size=g at HB⊢;have⟨c0,c1,c2,cf⟩:=HT1.s.c;cases B
 case' false =>
  have⟨r0,r1,r2,rf⟩:=HT1.r.c;have⟨z0,z1,z2,HZ,XZ⟩:=HT1.Eg aa.o (p);go_wp2;refine Fn Xv rfl ⟨DJ.of (Gn.o) rfl HZ.o,XZ⟩
 case' true =>
  have M6:b9 (Fz ⟨p,V,X⟩ 6=(⟨p,V,X⟩,Lib.join (D' (x,y)::C.map λc=>bJ c) [32])):=Gn.trans rfl;clear Gn;have⟨Um,LF⟩:=HCD.o rfl;refine t8 Um (jg (w:=w2) x y (ec HTB.o HT1.x)) (qt (x,y)) λUm Pq Fq=>?_;have q0:=HB.c0;have q1:=HB.c1;have hpn:pn<=32:=k8 HN.o;have⟨ahZ,ahp⟩:=HI.aq9;generalize D' (x,y)=tr at Pq Fq M6;clear LF c0 c1 c2 cf;go_wp2_with fail;refine i7 Pq λw3 hx=>?_;refine Op (HT1.ext hx) (aa.ext hx) (HI.ext hx) (A5.lit A9 9 w3 w3 [tr] #[aE (bs tr)] rfl w3 rfl (i8 _) j7) λFu B9 Yx HO1=>?_;clear q0 q1;go_wp2
  go_loopg [18,144] pn (λgk tt kk wr=>∃(k m4 c4:Nat) (b4:l9),b9 (gk+k=pn)/\tt=GI b4 m4 c4/\kk=U k/\b9 (A5 A9 9 wr w3 (GI b4 m4 c4) (tr::(C.take k).map λc=>bJ c))/\b9 (C7 w3 wr))
  ·exact O0
  obtain⟨k,m4,c4,b4,HK,rfl,rfl,J1,HX⟩:=hrel;have PE:=ST k;have FP:=I (show(tr::(C.take k).map λc=>bJ c).length<=100000 by rw[nR,dc,k6];have:=HN.o;omega);by_cases hlt:k<pn
  ·have G4:=Rd k pn;obtain⟨lb,lo,rfl,D1⟩:=(Yx.ext HX).at hlt;have hkC:k<JL C:=by rw[HN.o];exact hlt
   have hCk:=Id hkC;have⟨s,hs,RJ⟩:=Um.o C[k] (eN _);have HJ:=I (show(tr::(C.take k).map λc=>bJ c)++[bJ (s:Int)]=tr::(C.take (k+1)).map λc=>bJ c by
    rw[Yg,hCk,sr,<-RJ];rfl)
   rw[hCk,Nm,RJ]at D1;have PW:=I (λ(w':J)=>gV (w:=w') s hs);generalize bJ (s:Int)=tc at HJ PW;clear hCk RJ hkC;go_wp2_with fail;refine i7 (PW _) λw4 hx=>?_;have X4:=I (HX.trans hx);have FI:=I (J1.ext hx);clear D1;have F5:=I (GL.lit A9 9 w4 [tc] 1 rfl #[aE (bs tc)] rfl w4 rfl j0);go_wp2_with (at_builtin;refine dJ A9 Tryz.EZ rfl Ry Fd rfl _ _ rfl w3 (GI b4 m4 c4) _ rfl (FI.ext WU) _ 1 1 [tc] rfl F5.o (k8 FP.o) (by have:=X4.size;simp;omega) ?_;intro v6 w6 ho hg r7;obtain⟨a6,n6,c6,rfl,Ia⟩:=ho.var;have EP:=I ho;have FU:=I (aj (X4.trans WU) hg (λj hj=>(FI.lt j hj).1));clear ho hg r7);exact gf
  have DV:k=pn:=k8 HK.o;have HE:b9 (C.take k=C):=bR (by rw[HN.o];omega);rw[HE.o]at J1;have G4:¬(k:Int)<(pn:Int):=j0;have Fh:=I (Fu.ext HX);have Ec:=I (B9.ext HX);have hm4:m4<=2000000:=by have h1:=J1.Hr.hlen;have h2:=FP.o;rw[HE.o]at h2;omega
  have S4:=I (λ(w':J) (hx:C7 wr w')=>wB (J1.ext hx) [32] hm4 (by
   have:=ms (L:=tr::C.map λc=>bJ c) (m:=50) (λz hz=>by
    rcases SU.1 hz with rfl|hz
    ·exact Fq
    obtain⟨c,_,rfl⟩:=C'.1 hz;have:=jr c;omega)
   have h2:=FP.o;rw[HE.o]at h2;omega))
  have⟨tj,Y8⟩:=GT (bs (Lib.join (tr::C.map λc=>bJ c) [32]));simp only[<-Y8.o]at S4;have hk:=C7.drew wr;clear hm4 DV;go_upto_region 32 with fail;exact Zo
theorem pb (hO : aK w base a n cap b m dap V X) (hb : base <= w.heap.size) (htab : Lib.TabIs prog w "internal/strconv.uint64pow10" .u64 Lib.pow10Tab) (t : List UInt8) (h : So t = 9) :
 Calls prog 26 #[sess p a n cap b m dap,aE (bs t)] w λe w'=>DJ w' base e (Fz ⟨p,V,X⟩ 9)/\C7 w w':=by
 have⟨e0,e1,e2,e3,e4,e5,e6,e7,e8⟩:=w9 t;simp only[h,Nat.reduceBEq]at e0 e1 e2 e3 e4 e5 e6 e7 e8;generalize bs t=tt at e0 e1 e2 e3 e4 e5 e6 e7 e8⊢;have⟨W,hW,HT,HO,⟨c0,c1,c2,cf⟩,r0,r1,r2,rf⟩:=fR p hO;have HTB:=I htab;have I2:=I hb;clear htab hb h;clear hO;go_in
 go_upto_region 1 with fail;rw[<-hW];clear hW;have qq0:=@xi;exact YX
end
