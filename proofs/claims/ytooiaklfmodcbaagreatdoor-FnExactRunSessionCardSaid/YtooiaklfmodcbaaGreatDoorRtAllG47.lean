import Derived.Test.YtooiaklfmodcbaaGreatDoorRtAllG30
set_option linter.all false
set_option maxHeartbeats 6000000
set_option maxRecDepth 100000
namespace Go.Proofs.YtooiaklfmodcbaaGreatDoor
open Ending renaming returned->ar
open List renaming length->JL
open Obj renaming cells->QD
open Value renaming slice->GI,bool->bl,string->aE,pointer->aP
open Go.RowKit
variable{σ:Prop}
section
def RG(h:σ:=by have h2:=QT.o;simp;omega):σ:=h
def OM(h:σ:=by simp[results,qq0,go_sem,z0,z1,z2,z3,z4]<;>rfl):σ:=h
def QN{P Q:Prop}(q:Q)(h:Q->P:=by intro q;go_roundg (gk-1);exact q;have:=HJ3.o;omega):P:=h q
def Mm{P Q:Prop}(q:Q)(h:Q->P:=by intro q;go_roundg (g1-1);exact q;have:=Zj.o;omega):P:=h q
variable{w W w1:J}{base g n r:Nat}{v Ut:arQ}{l V:o3}{a:l9}{t:TypeId}{pt':l7}
theorem C9.aside{w2:J}{G:Nat}{vc:arQ}{C:l7}(h:C9 w base g d6 (d6) vc [] [] [] C)(ho:r' w G v l)(hg:w.grownBy w2 v.ownBlock):
 C9 w2 base g d6 (d6) vc [] [] [] C :=
 ⟨(hg.block g h.lt (aq ho h.box Fd)).trans h.box,h.hg,DQ.nil _ _,bF.nil _ _,C1,Hw.nil _,h.c.VJ WF ho hg⟩
theorem W3{E vb:arQ}{B:o3}(h:∀j,v.ownBlock=some j->vb.ownBlock≠some j)(hb:r' w base vb B)(H:Hx w v E):∀j,E.ownBlock=some j->vb.ownBlock≠some j:=λj K e=>by
 rcases H j K with G|G
 ·exact h j G e
 have:=(hb.lt j e).2;omega
theorem Bc{p:Int}{m:Nat}(hm:m+1=JL V):(aW V).take (m-1)++[(bu p V,1)]=dQ p V:=by
 unfold dQ;rw[show V.length-2=m-1 by omega]
theorem yV{m k:Nat}(hm:m+1=n):DK (EK 1 (m-1)) k++[-1]=eB n k:=by
 unfold eB;rw[show n-2=m-1 by omega]
theorem bF.Sq{vs:List arQ}{L:l8}(h:bF w base vs L)(ho:r' w base v l)(E:Hw vs v):bF w base (vs++[v]) (L++[l]):=by
 refine⟨by simp[h.len],λi hi=>?_,λi j k K H G=>?_⟩
 ·by_cases hl:i<JL L
  ·rw[tv OK,tv hl];exact h.row i hl
  have:i=JL L:=by simp at hi;omega
  subst this;rw[<-h.len];simp only[Wo,Nm];rw[h.len];simp only[Wo,Nm];exact ho
 by_cases hl:j<JL L
 ·rw[tv Sk]at G;rw[tv OK];exact h.apart i j k K hl G
 have:j=JL L:=by simp at H;omega
 subst this;rw[tv Sk]at G;rw[<-h.len];simp only[Wo,Nm];exact E i k Sk G
section
variable{w w2:J}{base g:Nat}{va vb vc:arQ}{vs:List arQ}{A:l8}{B:o3}{C:l7}
theorem C9.aaL(h:C9 w base g va vb vc vs A B C){Z:Nat}{v:arQ}{l:o3}(ho:r' w Z v l)(K:w.grownBy w2 v.ownBlock)(H:Hw vs v)(hb:∀k,v.ownBlock=some k->vb.ownBlock≠some k):C9 w2 base g va vb vc vs A B C :=
 ⟨(K.block g h.lt (aq ho h.box Fd)).trans h.box,h.hg,h.a.keep (λk G=>K.block k (h.a.lt k G).2 λe=>ho.apart h.a k e.symm G),
   h.rows.keep (λi k hi G=>K.block k ((h.rows.row i hi).lt k G).2 λe=>H i k (by rw[h.rows.len];exact hi) G e.symm),
   h.b.keep (λk G=>K.block k (h.b.lt k G).2 λe=>hb k e.symm G),h.off,h.c.VJ WF ho K⟩
theorem C9.acW(h:C9 w base g va vb vc vs A B C){E OD:arQ}{r:o3}(hr:r' w base E r)(G:Hw vs E)(hb:∀k,E.ownBlock=some k->vb.ownBlock≠some k)(H:w.grownBy w2 va.ownBlock)(ho:DQ w2 base OD (vs++[E])):
 C9 (w2.setCell (O g 0) OD) base g OD vb vc (vs++[E]) (A++[r]) B C:=by
 have E4:w2.heap[g]?=some (QD #[va,vb,vc] 105 (0,0)):=(H.block g h.lt h.neA).trans h.box;have Fx:∀k,k≠g->(w2.setCell (O g 0) OD).heap[k]?=w2.heap[k]?:=λk hk=>GE _ _ _ _ hk
 have PL:r' w2 base vb B:=h.b.keep λk hk=>H.block k (h.b.lt k hk).2 λe=>h.b.apart h.a k hk e.symm
 have hC2:WV w2 base vc C:=h.c.keep λk hk=>H.block k (h.c.lt k hk).2 λe=>aL Fd h.c h.a k hk e.symm
 have WX:bF w base (vs++[E]) (A++[r]):=h.rows.Sq hr G;have QF:bF w2 base (vs++[E]) (A++[r]):=WX.keep λi k hi hk=>H.block k ((WX.row i hi).lt k hk).2 λe=>(WX.row i hi).apart h.a k hk e.symm
 refine⟨?_,h.hg,?_,?_,?_,?_,?_⟩
 ·exact Q1
 ·exact Ug
 ·exact Qr
 ·exact WY
 ·intro i k hi hk Q;by_cases hl:i<JL vs
  ·rw[tv hl]at hk;exact h.off i k hl hk Q
  have K:i=JL vs:=by simp at hi;omega
  subst K;rw[Wo,Nm]at hk;exact hb k hk Q
 exact jl
end
theorem Dl{p:Int}{cap:Nat}(h:d9 w a n cap V):
 Calls Tryz.prog 104 #[FS p a n cap] w λe w'=>Yc w' e (eZ p.toNat n) (fV p.toNat) (dQ p V) (ak p V&&decide (2<=p))/\C7 w w':=by
 have⟨W,hW⟩:=e9 ((w.alloc (QD #[.int .i64 p,GI a n cap] 31)).alloc (QD #[GI none 0 0,GI none 0 0,GI none 0 0] 105));refine z6 (show W.heap.size=w.heap.size+2 by rw[hW];simp) (show C7 w W by rw[hW];exact WU.trans WU) (show W.cell? ⟨w,1,none⟩=some (GI a n cap)by rw[hW];simp) (show W.cell? ⟨w,0,none⟩=some (.int .i64 p)by rw[hW];simp) (show W.heap[w.heap.size+1]?=some (QD #[GI none 0 0,GI none 0 0,GI none 0 0] 105 (0,0))by rw[hW];exact IO j7) h.hlen λDW A8 NZ M3 R5 HVL=>?_;have ND:=h.r8;have NC:=h.r9;have I6:=I (h.ext A8);have HC:=I (bY (p:=p) (h.ext A8));have J':(w.heap.size+1)<W.heap.size:=by rw[DW.o];omega
 have DO:=I (λ(w':J) (hx:C7 W w')=>(hx.block _ J').trans R5);clear h J';cases hg:ak p V
 ·have qq0:=@Wv;exact Qv
 by_cases h2:p<2
 ·rw[hg,hW]at HC;have HBF:=I (show(true&&decide (2<=p))=false by rw[y6];exact Ok j0);clear hg;go_in
  go_wp2_with fail;refine HC.mono ?_;rw[<-hW];rintro e w1 ⟨rfl,A'⟩;have Eb:=C9.FF (DO w1 A');have Eh:=C9.FE (DO w1 A');have FZ:=C9.F3 (DO w1 A');have Ip:=C9.F2 (DO w1 A');have LV:=A'.o6 M3.o;have A0:=I A';clear A';go_wp2;refine Fn (v:=.tuple #[.agg #[GI none 0 0,GI none 0 0,GI none 0 0],bl false]) (by simp[results,Wv,go_sem,Eb,Eh,FZ]) rfl ⟨⟨none,0,0,none,0,0,none,0,0,by rw[HBF.o],λh=>by rw[HBF.o]at h;cases h⟩,(((A8.trans A0).store 0 j0 _).store 1 j0 _).store 2 j0 _⟩
 have ab:=I (show(true&&decide (2<=p))=true by rw[y6];exact UV j0);obtain⟨q,rfl,h1,h5,hlen,_,FG⟩:=ap hg;have hq:=bp q h5;have hq4:=Uy ⟨q,by omega⟩ (show 2<=q by omega);have GQ:n<=32:=by rw[<-HVL.o,hlen];omega
 have Oj:4<=n:=by rw[<-HVL.o,hlen];exact hq4
 obtain⟨m,hm⟩:∃m:Nat,m+1=n:=⟨n-1,by omega⟩;have HMN:=I hm;have hm3:3<=m:=j0;have hmn:m<n:=j0;have hm31:m<=31:=j0;have hnw:=wq ((n:Int)-1) (m:Int);refine t8 FG (show(aW V).length=m by unfold aW;simp[HVL.o];omega) (λ(w':J) (hx:C7 W w')=>iK (p:=(q:Int)) (I6.ext hx)) λIG HCL JT=>?_;have⟨gv,Jd⟩:=e9 (bu (q:Int) V);simp only[<-Jd]at JT;have Ze:=I (show(aW V).take (m-1)++[(gv,1)]=dQ (q:Int) V by rw[Jd];exact Bc (by rw[HVL.o];exact hm));have Oh:¬(q:Int)<2:=h2;rw[hg,hW]at HC;clear hg hlen FG hq Jd hm hq4;go_in
 go_wp2_with fail;refine HC.mono ?_;rw[<-hW];clear hW;rintro e w1 ⟨rfl,A'⟩;have IK:=A'.size;rw[DW.o]at IK;have A0:=I A';have LV:=A'.o6 M3.o;have Nr:=I (C9.new (w:=w1) (base:=w.heap.size+2) IK);have⟨g,Kb⟩:=e9 w1.heap.size;have⟨E,hE⟩:=e9 (w1.alloc (QD #[GI none 0 0,GI none 0 0,GI none 0 0] 105));have Qc:=I (show C7 W E by rw[hE];exact A'.trans WU);rw[<-Kb,<-hE]at Nr;have RJ:w.heap.size+2<=E.heap.size:=by rw[<-DW.o];exact Qc.size
 clear A';go_upto_region 4 with fail;rw[<-hE,<-Kb];clear hE Kb LV;refine t8 (r'.D2 E (w+2) _ rfl RJ) (Nr.ext (C7.alloc E (QD #[] 3))) (Qc.trans (C7.alloc E (QD #[] 3))) λHLA0 Me C0=>?_;go_wp2
 go_loopg [5,6] (m-1) (λgk ll ii wr=>∃(k:Nat) (vc:arQ) (al:l9) (nl cl:Nat),b9 (gk+k=m-1)/\ii=.int .i64 ((k+1:Nat):Int)/\ll=GI al nl cl/\b9 (r' wr (w+2) (GI al nl cl) (List.replicate k 1))/\b9 (C9 wr (w+2) g (GI none 0 0) (GI none 0 0) vc [] [] [] ((aW V).take k))/\b9 (C7 W wr))
 ·exact⟨0,_,_,_,_,I j0,rfl,rfl,HLA0,Me,C0⟩
 rename Nat=>g1;rename J=>y9;obtain⟨k,vc,al,nl,cl,HK,rfl,rfl,aa,Fb,HX⟩:=hrel;have hsz:=HX.size;rw[DW.o]at hsz;have RT:=HX.o6 NZ.o;by_cases ad:k+1<m
 ·have hlt:k+1<n:=by omega
  have⟨eb,DI,IU,Fg⟩:=(I6.ext HX).at hlt;subst IU;have⟨v,hv⟩:=e9 (V[k+1]?.getD 0);have FG:-500<=v/\v<=500:=by
   exact G3
  rw[<-hv]at Fg;have Y6:=I (show W.cell? ⟨eb,DI+(k+1),none⟩=some (.int .i64 v)by
   have⟨eb',Xp,NJ,he'⟩:=I6.at hlt;simp only[bq,H4,E5]at NJ;obtain⟨rfl,rfl⟩:=NJ;rw[hv];exact he')
  have F9:=I (lZ HVL.o hlt hv.symm);have Pd:=dk (-v);have KN:(0:Int)<=((k+1:Nat):Int):=j0;have Gj:((k+1:Nat):Int)<(m:Int):=j0;have hk1n:((k+1:Nat):Int)<(n:Int):=j0;have Wz:=wq (((k+1:Nat):Int)+1) ((k+1+1:Nat):Int);have o7:(0:Int)<=(k:Int)+1:=j0;have JH:(k:Int)+1<(m:Int):=j0;have hk3n:(k:Int)+1<(n:Int):=j0;have hk4:((k:Int)+1).toNat=k+1:=j0;have Ow:=I (show((aW V).take k).length=k by rw[k6,HCL.o];omega);have t2:=Fb.c2;clear hv;have o8:=I λw' (h:C7 y9 w')=>TX (h.o6 t2) (TX (h.o6 RT) (TX (h.o6 Fg) (HX.trans h)));have G:=C7.drew y9;go_upto_region 8 with fail;refine cD (M:=[12]) (S:=λw'=>w'.cell? ⟨g,2,none⟩=some vc/\w'.cell? ⟨w,1,none⟩=some (GI (some ⟨eb,DI,none⟩) n cap)/\w'.cell? ⟨eb,DI+(k+1),none⟩=some (.int .i64 v)/\C7 W w') j8 ?_;have Z:=o8.o _ G;have⟨wd,H⟩:=e9 y9.drew;rw[<-H]at G Z;rw[<-H];clear H;have Q5:=G.size;refine Rv ⟨?_⟩;refine lp 7 ?_;refine Gp 8 λK hK=>?_
  go_simp;go_at_call 97;refine IR (cL _ _) λw3 B5=>?_;have G:C7 y9 w3:=G.trans B5;have J8:=G.size;go_wp2_with fail;refine KL (o8 _ G) λZ=>?_
  refine Gp 9 λK hK=>?_;go_simp;refine hK.out _ _ (λ_=>o8.o _ (G.trans WU)) ?_;clear hK K
  try simp only[Act.put,sA,sB,sC]
  refine Gp 10 λK hK=>?_;refine dq _ _ j9 (w+2) vc _ j9 ((Fb.c.ext G).ext WU) _ 1 _ [(-v,1)] j9 (C2 rfl) UR m9 ?_;intro v6 w6 ho Js r7;obtain⟨a6,n6,q6,rfl,Ia⟩:=ho.var;have Nq:=I (Fb.Sr (G.trans WU) Js ho);have P':=Fb.aaY (G.trans WU) Js;have c26:=C9.F3 P';have cf6:=C9.F2 P';have Se:b9 (r' (w6.setCell ⟨g,2,none⟩ (GI a6 n6 q6)) (w+2) (GI al nl cl) (List.replicate k 1)):=bg (aa.Qn (G.trans WU) Fb.c Js) P' Fd;have L0:C7 W w6:=aj ((HX.trans G).trans WU) Js (λj hj=>by rw[DW.o];exact(Fb.c.lt j hj).1);clear ho Js r7 P';refine KL ((⟨c26,L0.o6 NZ.o,L0.o6 Y6.o,L0⟩:w6.cell? ⟨g,2,none⟩=some vc/\w6.cell? ⟨w,1,none⟩=some (GI (some ⟨eb,DI,none⟩) n cap)/\w6.cell? ⟨eb,DI+(k+1),none⟩=some (.int .i64 v)/\C7 W w6)) λZ=>?_;refine lp 11 ?_;refine OJ 12 ?_;refine cQ j8 ?_ _;have IZ:=I (L0.setCell (p:=⟨g,2,none⟩) db (GI a6 n6 q6));have⟨W9,ID⟩:=e9 (w6.setCell ⟨g,2,none⟩ (GI a6 n6 q6));rw[<-ID]at Nq IZ Se;go_upto_region 9 with fail;rw[<-ID];clear ID c26 cf6 Z G L0 t2;have YP:=IZ.size;rw[DW.o]at YP;have HP9:=I (show C9 W9 (w+2) g (GI none 0 0) (GI none 0 0) (GI a6 n6 q6) [] [] [] ((aW V).take (k+1))by rw[<-F9.o];exact Nq)
  go_wp2_with (first
   | (at_builtin;refine bK rfl _ _ rfl (w+2) (GI al nl cl) _ rfl (Se.ext WU) _ 1 _ [1] rfl (K4 j7) m9 m9 ?_;intro v10 Nx ho adH r7;have HPA:=I ((HP9.ext WU).aside (Se.ext WU) adH);have XA:=I (aj (C7.trans IZ.o WU) adH (λj hj=>by rw[DW.o];exact(Se.lt j hj).1));obtain⟨a10,n10,c10,rfl,abn⟩:=ho.var;have Yo:=I (show r' Nx (w+2) (GI a10 n10 c10) (List.replicate (k+1) 1)by rw[eo];exact ho);clear ho adH r7))
  refine kf ?_;exact⟨k+1,_,_,_,_,I (k8 HK.o),by go_num,rfl,Yo,HPA,XA⟩
 have Iq:k=m-1:=k8 HK.o;rw[Iq]at aa Fb;have adQ:=HX.o6 M3.o;have t2:=Fb.c2;have Ow:=I (show((aW V).take (m-1)).length=m-1 by rw[k6,HCL.o];omega);have Ez:¬((k:Int)+1)<(m:Int):=j0;have o8:=I λw' (h:C7 y9 w')=>TX (h.o6 t2) (TX (h.o6 adQ) (TX (h.o6 RT) (HX.trans h)));have G:=C7.drew y9;clear Iq;go_upto_region 10 with fail;refine cD (M:=[8]) (S:=λw'=>w'.cell? ⟨g,2,none⟩=some vc/\w'.cell? ⟨w,0,none⟩=some (.int .i64 (q:Int))/\w'.cell? ⟨w,1,none⟩=some (GI a n cap)/\C7 W w') j8 ?_;have Z:=o8.o _ G;have⟨wd,H⟩:=e9 y9.drew;rw[<-H]at G Z;rw[<-H];clear H;have Q5:=G.size;refine lp 0 ?_;refine ll 1 ?_;refine ll 2 ?_;refine Gp 3 λK hK=>?_
 go_simp;go_at_call 98;refine IR (JT _ (HX.trans G)) λw3 B5=>?_;have G:C7 y9 w3:=G.trans B5;have J8:=G.size;go_wp2_with fail;refine KL (o8 _ G) λZ=>?_
 refine Gp 4 λK hK=>?_;go_simp;go_at_call 97;refine IR (cL _ _) λw4 DN=>?_;have G:C7 y9 w4:=G.trans DN;have TZ:=G.size;go_wp2_with fail;refine KL (o8 _ G) λZ=>?_
 refine Gp 5 λK hK=>?_;go_simp;refine hK.out _ _ (λ_=>o8.o _ (G.trans WU)) ?_;clear hK K
 try simp only[Act.put,sA,sB,sC]
 refine Gp 6 λK hK=>?_;refine dq _ _ j9 (w+2) vc _ j9 ((Fb.c.ext G).ext WU) _ 1 _ [(gv,1)] j9 (C2 rfl) UR m9 ?_;intro v6 w6 ho Js r7;obtain⟨a6,n6,q6,rfl,Ia⟩:=ho.var;have Nq:=I (Fb.Sr (G.trans WU) Js ho);have P':=Fb.aaY (G.trans WU) Js;have c26:=C9.F3 P';have cf6:=C9.F2 P';have Se:b9 (r' (w6.setCell ⟨g,2,none⟩ (GI a6 n6 q6)) (w+2) (GI al nl cl) (List.replicate (m-1) 1)):=bg (aa.Qn (G.trans WU) Fb.c Js) P' Fd;have L0:C7 W w6:=aj ((HX.trans G).trans WU) Js (λj hj=>by rw[DW.o];exact(Fb.c.lt j hj).1);clear ho Js r7 P';refine KL ((⟨c26,L0.o6 M3.o,L0.o6 NZ.o,L0⟩:w6.cell? ⟨g,2,none⟩=some vc/\w6.cell? ⟨w,0,none⟩=some (.int .i64 (q:Int))/\w6.cell? ⟨w,1,none⟩=some (GI a n cap)/\C7 W w6)) λZ=>?_;refine lp 7 ?_;refine OJ 8 ?_;refine cQ j8 ?_ _;have IZ:=I (L0.setCell (p:=⟨g,2,none⟩) db (GI a6 n6 q6));have⟨W9,ID⟩:=e9 (w6.setCell ⟨g,2,none⟩ (GI a6 n6 q6));rw[<-ID]at Nq IZ Se;rw[Ze.o]at Nq;go_upto_region 11 with fail;rw[<-ID];clear ID c26 cf6 Z G L0 t2 RT adQ hsz;have⟨L,hL⟩:=e9 (EK 1 (m-1));have EW:=I (show JL L=m-1 by rw[hL];simp[EK])
 have Hc:=I (λ(j:Nat) (hj:j<m-1)=>show L[j]?.getD 0=(j:Int)+1 by
  rw[hL,Id (by simp[EK];exact hj)]
  simp[EK];omega)
 have HLE:=I (λk=>show DK L k++[-1]=eB n k by rw[hL];exact yV HMN);clear hL;go_wp2
 go_loopg [7] q (λgk ii wr=>∃(k:Nat) (va vb:arQ) (vs:List arQ),b9 (gk+k=q)/\ii=.int .i64 (k:Int)/\b9 (C9 wr (w+2) g va vb (GI a6 n6 q6) vs ((List.range k).map (eB n)) (List.replicate k 0) (dQ (q:Int) V))/\b9 (r' wr (w+2) (GI al nl cl) (List.replicate (m-1) 1))/\b9 (∀j,(GI al nl cl).ownBlock=some j->vb.ownBlock≠some j)/\b9 (Hw vs (GI al nl cl))/\b9 (C7 W wr))
 ·exact⟨0,_,_,[],I j0,rfl,Nq,Se,I (λj _ h=>by cases h),I (Hw.nil _),IZ⟩
 rename Nat=>g2;rename J=>wr2;obtain⟨k,va,vb,vs,PU,rfl,Ea,Yw,TF,Zc,C0⟩:=hrel;have Iz:=C0.size;rw[DW.o]at Iz;have LV:=C0.o6 M3.o;have MM:=C0.o6 NZ.o;by_cases To:k<q
 ·have HO1:=I (r'.D2 wr2 wr2 _ rfl (i8 _));have hkqi:=Rd k q;go_wp2
  go_loopg [8,9] (m-1) (λgk row ii wr=>∃(j:Nat) (a2:l9) (n2 p2:Nat),b9 (gk+j=m-1)/\ii=.int .i64 ((j+1:Nat):Int)/\row=GI a2 n2 p2/\b9 (r' wr wr2 (GI a2 n2 p2) (DK (L.take j) k))/\b9 (C7 wr2 wr))
  ·exact O0
  obtain⟨j,a2,n2,p2,HJ,rfl,rfl,HO,B7⟩:=hrel;have KI:=B7.size;have Oh:=B7.o6 MM;by_cases F0:j+1<m
  ·have hjw:=wq (((j+1:Nat):Int)+1) ((j+1+1:Nat):Int);have adE:(j:Int)+1<(m:Int):=j0;have hjl3:((j+1:Nat):Int)<(m:Int):=j0;exact M0
  have adE:¬((j:Int)+1)<(m:Int):=j0;have hjl3:¬((j+1:Nat):Int)<(m:Int):=j0;have hTL:L.take j=L:=bR N5;rw[hTL]at HO;have HML:=I (show(DK L k).length=m-1 by simp only[DK,dc];rw[EW.o]);have N1:=I (show JL vs=k by rw[Ea.rows.len];simp);have t0:=Ea.c0;have LM:=I λw' (h:C7 wr2 w')=>TX (h.o6 t0) (C0.trans h);have G:C7 wr2 wr.drew:=B7.trans (C7.drew wr);clear hTL;go_upto_region 19 with fail;refine cD (M:=[8]) (S:=λw'=>w'.cell? ⟨g,0,none⟩=some va/\C7 W w') j8 ?_;have Z:=LM.o _ G;have QM:=I (HO.ext (C7.drew wr));have⟨wd,H⟩:=e9 wr.drew;rw[<-H]at G QM Z;rw[<-H];clear H;have Q5:=G.size;refine lp 0 ?_;refine ll 1 ?_;refine lp 2 ?_;refine Gp 3 λK hK=>?_
  go_simp;refine hK.out _ _ (λ_=>LM.o _ (G.trans WU)) ?_;clear hK K
  try simp only[Act.put,sA,sB,sC]
  refine Gp 4 λK hK=>?_;refine aO _ _ j9 wr2 (GI a2 n2 p2) _ j9 (QM.ext WU) _ 1 _ [-1] j9 (K4 rfl) xw m9 ?_;intro v6 w6 ho Js r7;obtain⟨a7,n7,q7,rfl,My⟩:=ho.var;have EP:=I ho;have JV:C7 wr2 w6:=aj (G.trans WU) Js (λj hj=>(HO.lt j hj).1);have hs6:=JV.size;clear ho Js r7;refine KL (LM _ JV) λZ=>?_;refine Gp 5 λK hK=>?_;go_simp;refine hK.out _ _ (λ_=>LM.o _ (JV.trans WU)) ?_;clear hK K
  try simp only[Act.put,sA,sB,sC]
  refine Gp 6 λK hK=>?_;refine du _ _ j9 (w+2) va vs j9 ((Ea.a.ext JV).ext WU) _ _ 1 j9 N3 rfl (by rw[N1.o];omega) m9 ?_;intro v7 w7 ho LX r7;obtain⟨a8,n8,q8,rfl,M7⟩:=ho.var;refine t8 ho LX r7 λII Si HR7=>?_;have EX:=Ea.OR (JV.trans WU) LX;have Re:=C9.FF EX;have YX:=C9.F2 EX;have abt:b9 (r' (w7.setCell ⟨g,0,none⟩ (GI a8 n8 q8)) (w+2) (GI al nl cl) (List.replicate (m-1) 1)):=bg (Yw.Kp (JV.trans WU) Ea.a LX) EX Fd;have Nl:C7 W w7:=aj ((C0.trans JV).trans WU) LX (λj hj=>by rw[DW.o];exact(Ea.a.lt j hj).1);clear ho LX r7 EX;refine KL (hJ Re Nl) λZ=>?_;refine lp 7 ?_;refine OJ 8 ?_;refine cQ j8 ?_ _;have JS:=I (Ea.Lf (JV.trans WU) (EP.ext WU) Iz Si.o II.o HR7);have HOV8:=I (Zc.snoc Yw.o EP);rw[HLE.o,show(List.range k).map (eB n)++[eB n k]=(List.range (k+1)).map (eB n)by rw[rN,sr];rfl]at JS;have Ma:=I (Nl.setCell (p:=⟨g,0,none⟩) TP (GI a8 n8 q8));have⟨W8,NO⟩:=e9 (w7.setCell ⟨g,0,none⟩ (GI a8 n8 q8));rw[<-NO]at JS Ma abt;go_upto_region 20 with fail;rw[<-NO];clear NO Re YX Z G JV;have b1:=JS.c1;have bf:=JS.free;have hl8:=JS.lt;have hs8:w.heap.size+2<=W8.heap.size:=by rw[<-DW.o];exact W0 Ma.o
  go_wp2_with (first
   | (at_builtin;refine bK rfl _ _ rfl (w+2) vb _ rfl (JS.b.ext WU) _ 1 _ [0] rfl (K4 j7) m9 m9 ?_;intro v9 w9 ho Gt r7;have Kx:=I (JS.pushB WU Gt ho r7);have EX:=JS.OQ WU Gt;have Y0:=C9.FE EX;have SM:=C9.F2 EX;have HLA9:b9 (r' (w9.setCell ⟨g,1,none⟩ v9) (w+2) (GI al nl cl) (List.replicate (m-1) 1)):=bg (show r' w9 (w+2) (GI al nl cl) (List.replicate (m-1) 1)from(abt.ext WU).keep (λj hj=>Gt.block j (Pw (abt.lt j hj).2 j7) (λe=>TF.o j hj e.symm))) EX Fd;have HOF9:=I (show∀j,(GI al nl cl).ownBlock=some j->v9.ownBlock≠some j from λj hj e=>by rcases r7 j e with h3|h3;exact TF.o j hj h3;have:=(abt.lt j hj).2;simp at h3;omega);have Nk:C7 W w9:=aj (C7.trans Ma.o WU) Gt (λj hj=>by rw[DW.o];exact(JS.b.lt j hj).1);obtain⟨a9,n9,q9,rfl,N'⟩:=ho.var;clear ho Gt r7 EX))
  have Lw:=I (Nk.setCell (p:=⟨g,1,none⟩) TP (GI a9 n9 q9));refine Y2 ?_;exact⟨k+1,_,_,_,I (k8 PU.o),by go_num,I (by have h1:=Kx.o;rw[<-eo]at h1;exact h1),HLA9,HOF9,HOV8,Lw⟩
 have aar:q=k:=k8 PU.o;have hnk:¬(k:Int)<(q:Int):=j0;have N1:=I (show JL vs=q by rw[Ea.rows.len];simp;omega);rw[<-aar]at Ea;have t0:=Ea.c0;have LM:=I λw' (h:C7 wr2 w')=>TX (h.o6 t0) (C0.trans h);have G:=C7.drew wr2;clear aar;go_upto_region 21 with fail;refine cD (M:=[8]) (S:=λw'=>w'.cell? ⟨g,0,none⟩=some va/\C7 W w') j8 ?_;have Z:=LM.o _ G;have⟨wd,H⟩:=e9 wr2.drew;rw[<-H]at G Z;rw[<-H];clear H;have Q5:=G.size;refine lp 0 ?_;refine ll 1 ?_;refine lp 2 ?_;refine Gp 3 λK hK=>?_
 go_simp;refine hK.out _ _ (λ_=>LM.o _ (G.trans WU)) ?_;clear hK K
 try simp only[Act.put,sA,sB,sC]
 refine Gp 4 λK hK=>?_;refine aO _ _ j9 (w+2) (GI al nl cl) _ j9 (Yw.ext (G.trans WU)) _ 1 _ [0] j9 (K4 rfl) m9 m9 ?_;intro v6 w6 ho Js r7;refine t8 ((Ea.ext (G.trans WU)).aaL (Yw.ext (G.trans WU)) Js Zc.o TF) (Zc.near (Ea.ext (G.trans WU)).rows r7) (W3 TF.o (Ea.ext (G.trans WU)).b r7) λTO HOV6 HOF6=>?_;obtain⟨a7,n7,q7,rfl,My⟩:=ho.var;have EP:=I ho;have L0:C7 W w6:=aj ((C0.trans G).trans WU) Js (λj hj=>by rw[DW.o];exact(Yw.lt j hj).1);have hs6:=L0.size;clear ho Js r7;refine KL (hJ TO.c0 L0) λZ=>?_;refine Gp 5 λK hK=>?_;go_simp;refine hK.out _ _ (λ_=>hJ (TO.ext WU).c0 (L0.trans WU)) ?_;clear hK K
 try simp only[Act.put,sA,sB,sC]
 refine Gp 6 λK hK=>?_;refine du _ _ j9 (w+2) va vs j9 (TO.a.ext WU) _ _ 1 j9 N3 rfl (by rw[N1.o];omega) (by simp;rw[DW.o]at hs6;omega) ?_;intro v7 w7 ho LX r7;have JS:=I ((TO.ext WU).acW (EP.ext WU) HOV6.o HOF6.o LX ho);obtain⟨a8,n8,q8,rfl,M7⟩:=ho.var;have EX:=TO.OR WU LX;have Re:=C9.FF EX;have YX:=C9.F2 EX;have Nl:C7 W w7:=aj (L0.trans WU) LX (λj hj=>by rw[DW.o];exact(TO.a.lt j hj).1);clear ho LX r7 EX;refine KL (hJ Re Nl) λZ=>?_;refine lp 7 ?_;refine OJ 8 ?_;refine cQ j8 ?_ _;have Ma:=I (Nl.setCell (p:=⟨g,0,none⟩) TP (GI a8 n8 q8));have⟨W8,NO⟩:=e9 (w7.setCell ⟨g,0,none⟩ (GI a8 n8 q8));rw[<-NO]at JS Ma;go_upto_region 22 with fail;rw[<-NO];clear NO Re YX Z G L0 Nl;have b1:=JS.c1;have bf:=JS.free;have hl8:=JS.lt;have hs8:w.heap.size+2<=W8.heap.size:=by rw[<-DW.o];exact W0 Ma.o
 have HA8:=I (show(List.range q).map (eB n)++[List.replicate (m-1) 1++[0]]=eZ q n by unfold eZ;rw[<-HMN.o,show m+1-2=m-1 by omega]);go_upto_region 23 with(first
  | (at_builtin;refine bK rfl _ _ rfl (w+2) vb _ rfl (JS.b.ext WU) _ 1 _ [1] rfl (K4 j7) m9 m9 ?_;intro v9 w9 ho Gt r7;have Kx:=I (JS.pushB WU Gt ho r7);have EX:=JS.OQ WU Gt;have Y0:=C9.FE EX;have SM:=C9.F2 EX;have Nk:C7 W w9:=aj (C7.trans Ma.o WU) Gt (λj hj=>by rw[DW.o];exact(JS.b.lt j hj).1);obtain⟨a9,n9,q9,rfl,N'⟩:=ho.var;clear ho Gt r7 EX))
 have Lw:=I (Nk.setCell (p:=⟨g,1,none⟩) TP (GI a9 n9 q9));have⟨W9,ID⟩:=e9 (w9.setCell ⟨g,1,none⟩ (GI a9 n9 q9));rw[<-ID]at Kx Lw;rw[<-ID];rw[HA8.o]at Kx;clear ID Y0 SM Nk b1 bf t0;have t0:=Kx.c0;have t1:=Kx.c1;have t2:=Kx.c2;have IA:=DO.o W9 Lw.o;have Eb:=C9.FF IA;have Eh:=C9.FE IA;have FZ:=C9.F3 IA;have Ip:=C9.F2 IA;have WA:∀j,w.heap.size+2<=j->(((W9.setCell ⟨w.heap.size+1,0,none⟩ (GI a8 n8 q8)).setCell ⟨w.heap.size+1,1,none⟩ (GI a9 n9 q9)).setCell ⟨w.heap.size+1,2,none⟩ (GI a6 n6 q6)).heap[j]?=W9.heap[j]?:=λj Gj=>by
  exact LQ
 have aeX:=I WA;clear IA WA;go_wp2;refine Fn (v:=.tuple #[Ig a8 n8 q8 a9 n9 q9 a6 n6 q6,bl true]) (by simp[results,Wv,go_sem,Eb,Eh,FZ]) rfl ⟨⟨a8,n8,q8,a9,n9,q9,a6,n6,q6,rfl,λ_=>⟨?_,?_,?_⟩⟩,(((A8.trans Lw).store 0 j0 _).store 1 j0 _).store 2 j0 _⟩
 ·have h0:bZ W9 (w+2) (GI a8 n8 q8) (eZ q n):=⟨_,Kx.a,Kx.rows⟩;exact bZ.Kq (h0.on _ λj h1 _=>aeX.o j h1)
 ·exact(Kx.b.on _ λj h1 _=>aeX.o j h1).ints
 exact(Kx.c.keep λj h1=>aeX.o j (Kx.c.lt j h1).1).rats
theorem NU{a b c d e:arQ}(hb:w.heap[g]?=some (QD #[a,b,c,d,e] t (0,0))):
 w.cell? (O g 0)=some a/\w.cell? (O g 1)=some b/\w.cell? (O g 2)=some c/\w.cell? (O g 3)=some d/\w.cell? (O g 4)=some e/\∀k,w.frozen? (O g k)=false:=by
 refine⟨?_,?_,?_,?_,?_,λk=>mo w g k _ _ hb⟩<;>rw[aR w g _ _ _ _ hb]<;>rfl
theorem ZM{x0 K H G E:arQ}(hb:W.heap[r]?=some (QD #[x0,K,H,G,E] t (0,0)))(v0 v1 v2 v3 v4:arQ):
 (((((W.setCell (O r 0) v0).setCell (O r 1) v1).setCell (O r 2) v2).setCell (O r 3) v3).setCell (O r 4) v4).heap[r]?=some (QD #[v0,v1,v2,v3,v4] t (0,0)):=by
 have h1:=cE W r 0 _ t v0 hb;have h2:=cE _ r 1 _ t v1 h1;have h:=cE _ r 2 _ t v2 h2;have Z:=cE _ r 3 _ t v3 h;have Q:=cE _ r 4 _ t v4 Z;exact Q
theorem oO(E:C7 w W)(hr:w.heap.size<=r)(v0 v1 v2 v3 v4:arQ):C7 w (((((W.setCell (O r 0) v0).setCell (O r 1) v1).setCell (O r 2) v2).setCell (O r 3) v3).setCell (O r 4) v4) :=
 ((((E.store 0 hr v0).store 1 hr v1).store 2 hr v2).store 3 hr v3).store 4 hr v4
theorem Z1{wr w2:J}{nv G:Int}{vp v2 E:arQ}{P P2:l7}(hb:wr.heap[g]?=some (QD #[bl true,U nv,U G,vp,E] 63 (0,0)))(ho:WV wr base vp P)(hg:w1.grownBy w2 vp.ownBlock)(hx:C7 wr w1)(Q:WV w2 base v2 P2):
 w2.heap[g]?=some (QD #[bl true,U nv,U G,vp,E] 63 (0,0))/\WV (w2.setCell (O g 3) v2) base v2 P2/\(w2.setCell (O g 3) v2).heap[g]?=some (QD #[bl true,U nv,U G,v2,E] 63 (0,0)):=by
 have K:=hx.blk hb;have RP:=ho.ext hx;have H:w2.heap[g]?=some (QD #[bl true,U nv,U G,vp,E] 63 (0,0)):=uh hg K (aq RP K Fd);exact⟨H,bg Q H Fd,cE w2 g 3 _ _ v2 H⟩
def je(w:J)(base:Nat)(p:Int)(V:o3)(e:Ending):Prop:=∃(x y:Int) (pa:l9) (pn pc:Nat) (wa:l9) (wn wc:Nat),e=ar (.agg #[bl (Jb p V),U x,U y,GI pa pn pc,GI wa wn wc]) /\
 (Jb p V=true->(x,y)=C5 (iT p V).value/\WV w base (GI pa pn pc) (MG p V))
theorem je.no{p:Int}(h:Jb p V=false):je w base p V (ar (.agg #[bl false,U 0,U 0,d6,d6])) :=
 ⟨0,0,none,0,0,none,0,0,by rw[h],λE=>by rw[h]at E;cases E⟩
def f'(h:σ:=by
 rw[hgo]at EW;have Kw:=I (show Jb p V=false by unfold Jb;rw[hgo];rfl);clear hgo;go_in
 go_wp2_with fail;rw[<-hW];refine EW.mono ?_;rintro e w1 ⟨⟨la,KB,KF,lb,KA,KE,lc,Kz,KD,rfl,_⟩,hx⟩;unfold Ig;have⟨w2,hw2⟩:=e9 (w1.alloc (bT la KB KF lb KA KE lc Kz KD));have X2:C7 W w2:=by rw[hw2];exact hx.trans WU
 have⟨q0,q1,q2,q3,q4,qf⟩:=KV.o w2 X2;obtain⟨z0,z1,z2,z3,z4,_⟩:=Fi.o w2 X2 (bl false) (U 0) (U 0) d6 (d6);have HZ:=I (JU w2 X2 (bl false) (U 0) (U 0) d6 (d6));go_upto_region 2 with fail;rw[<-hw2];clear hx hw2 hW;go_wp2;refine Fn OM rfl ⟨je.no Kw.o,HZ⟩
 ):σ:=h
def H5(h:σ:=by
 have Jc:(rs != 1)=true:=by simp[hs]
 have Kw:=I (show Jb (q:Int) V=false by rw[HLO.o];exact Ok hs);have Y2:=X4.o;have⟨q0,q1,q2,q3,q4,qf⟩:=KV.o w4 Y2;obtain⟨z0,z1,z2,z3,z4,_⟩:=Fi.o w4 Y2 (bl false) (U 0) (U 0) d6 (d6);have HZ:=I (JU w4 Y2 (bl false) (U 0) (U 0) d6 (d6));clear hs;go_wp2;refine Fn OM rfl ⟨je.no Kw.o,HZ⟩
 ):σ:=h
theorem rZ{p:Int}{cap:Nat}(h:d9 w a n cap V):
 Calls Tryz.prog 43 #[FS p a n cap] w λe w'=>je w' w p V e/\C7 w w':=by
 have⟨W,hW⟩:=e9 ((w.alloc (QD #[U p,GI a n cap] 31)).alloc (QD #[bl false,U 0,U 0,d6,d6] 63));have Ml:W.heap.size=w.heap.size+2:=by rw[hW];simp
 have hX:C7 w W:=by rw[hW];exact WU.trans WU
 refine z6 (show W.heap[w.heap.size+1]?=some (QD #[bl false,U 0,U 0,d6,d6] 63 (0,0))by rw[hW];exact IO j7) (show W.cell? (O w 0)=some (U p)by rw[hW];exact C7.o6 WU j7) (show W.cell? (O w 1)=some (GI a n cap)by rw[hW];exact C7.o6 WU j7) (h.ext hX) hX h.hlen λDO I9 Jt HI HX HVL=>?_;refine Op (Dl (p:=p) HI) (λ(w':J) (hx:C7 W w') (v0 v1 v2 v3 v4:arQ)=>NU (ZM ((hx.block _ j0).trans DO) v0 v1 v2 v3 v4)) (λ(w':J) (hx:C7 W w') (v0 v1 v2 v3 v4:arQ)=>oO (r:=w.heap.size+1) (HX.trans hx) (b7 _) v0 v1 v2 v3 v4) (λ(w':J) (hx:C7 W w')=>NU ((hx.block _ j0).trans DO)) λEW Fi JU KV=>?_;clear h hX;cases hgo:ak p V&&decide (2<=p)
 ·have qq0:=@yv;exact f'
 rw[hgo]at EW;have⟨Q',Oh⟩:=fl hgo;have Oh:=uf Oh;have Yg:=I (Bb Q');rw[HVL.o]at Yg;have⟨r,Eb⟩:=e9 (bG az (eZ p.toNat n) (fV p.toNat) (dQ p V));have Fv:=I Eb;have Fb:=I (show iT p V=r by unfold iT;rw[HVL.o,<-Eb]);have HLO:=I (show Jb p V=decide (r.status=1)by unfold Jb;rw[hgo,Fb.o];rfl);obtain⟨q,D4,Hh,JF,QE,_,Mx⟩:=ap Q';subst D4;have HGK:=I Q';have IB:2<=q:=j0;clear hgo QE Mx Q' Eb Oh;go_in
 go_wp2_with fail;rw[<-hW];refine EW.mono ?_;rintro e w1 ⟨⟨la,KB,KF,lb,KA,KE,lc,Kz,KD,rfl,Om⟩,hx⟩;unfold Ig;have⟨w2,hw2⟩:=e9 (w1.alloc (bT la KB KF lb KA KE lc Kz KD));have C4:C7 w1 w2:=by rw[hw2];exact WU
 have X2:=I (hx.trans C4);have Ff:=I (ls ((Om rfl).ext C4));rw[<-Yg.o,<-Fv.o]at Ff;have Oq:w2.heap[w1.heap.size]?=some (QD #[GI la KB KF,GI lb KA KE,GI lc Kz KD] 105 (0,0)):=by rw[hw2];exact IO rfl
 have⟨t0,t1,t2⟩:=gl Oq;go_upto_region 2 with fail;rw[<-hw2];clear hx C4 Om hw2 hW Oq;go_wp2_with fail;refine Ff.mono ?_
 have F4:=I (λ(hs:r.status=1)=>show JL r.Y=q+1/\z7 r.value=true/\∀k,k<JL r.Y->z7 (r.Y[k]?.getD (0,0))=true by
  have:=fu (bound:=az) (A:=eZ (q:Int).toNat n) (B:=fV (q:Int).toNat) (C:=dQ (q:Int) V) rj;rw[<-Fv.o]at this;refine⟨?_,this.2.2.2.2⟩;rw[this.2.2.2.1,gg];unfold fV;simp)
 rintro e w3 ⟨⟨xa,Z,xc,ya,yn,yc,ra,rn,rc,rfl,Ka⟩,B5⟩;have⟨w4,FY⟩:=e9 (w3.alloc (cZ r xa Z xc ya yn yc ra rn rc));have DN:C7 w3 w4:=by rw[FY];exact WU
 refine t8 ((X2.trans B5).trans DN) (Ka.here.ext DN) (show w4.heap[w3.heap.size]?=some (cZ r xa Z xc ya yn yc ra rn rc)by rw[FY];exact IO rfl) λX4 Ft Ek=>?_;obtain⟨rs,rX,rY,rr,⟨Ei,D6⟩,rp⟩:=r;unfold H8;go_upto_region 5 with fail;rw[<-FY];clear Ka B5 DN FY t0 t1 t2;generalize w3.heap.size=b5 at Ek⊢;have⟨l0,l1,l2,l3,l4,l5,l6,lf⟩:=Ef Ek.o
 try simp only at l0 l1 l2 l3 l4 l5 l6
 by_cases hs:rs=1
 ·subst hs;have⟨MH,Q1,JB⟩:=F4.o rfl
  try simp only at MH Q1 JB
  have FG:=aU Q1;refine t8 (λw'=>eW Ei D6 w' j0 j0) JB (show yn=q+1 by rw[<-MH];exact Ft.y.hlen.symm) λHNG Ye MZ=>?_;have hqy:q<yn:=k8 MZ.o;have hXX:=X4.o;have TZ:=hXX.size;have⟨nv,HNV⟩:=GT (-Ei);simp only[<-HNV.o]at HNG;have Sf:=I (λ(w':J) (hx:C7 w4 w')=>(⟨hx.o6 l1,hx.o6 l4,hx.o6 l5,hx⟩:w'.cell? (O b5 1)=some (GI xa Z xc)/\w'.cell? (O b5 4)=some (U Ei)/\w'.cell? (O b5 5)=some (U D6)/\C7 w4 w'));have c0:=hXX.o6 I9.o;clear MH Q1 JB FG;go_upto_region 7 with fail
  go_cut [6] (λv wx=>∃g,v=aP (some (O g 0))/\b9 (wx.heap[g]?=some (QD #[bl true,U nv,U D6,d6,GI xa Z xc] 63 (0,0)))/\b9 (w4.heap.size<=g)/\b9 (C7 w4 wx))
  case first =>
   have E:=C7.drew w4;refine mc Sf E λH=>?_;have⟨wd,G⟩:=e9 w4.drew;rw[<-G]at E H;rw[<-G];clear G;refine tk 0 ?_;refine tk 1 ?_;refine tk 3 ?_;refine tk 4 ?_;refine YT (rs:=[2,6]) j8 j7 ?_;refine Rg (λK hK=>?_) ?_
   ·
    go_simp;refine IR (HNG _) λw6 Hg=>?_;have E:C7 w4 w6:=E.trans Hg;go_wp2_with fail;refine KO (Sf _ E) λH=>?_;refine tk 5 ?_;refine rd 6 λK hK=>?_;go_simp;refine hK.out _ _ ?_ (λH=>?_)
    ·exact Sf.o _ (E.trans WU)
    clear hK K
    try simp only[Act.put,sA,sB,sC]
    have⟨w7,Gh⟩:=e9 (w6.alloc (QD #[bl false,U 0,U 0,d6,d6] 63));have⟨g,Kb⟩:=e9 w6.heap.size;have hb7:w7.heap[g]?=some (QD #[bl false,U 0,U 0,d6,d6] 63 (0,0)):=by rw[Gh,Kb];exact IO rfl
    have Hm:C7 w4 w7:=by rw[Gh];exact E.trans WU
    have YU:w4.heap.size<=g:=by rw[Kb];exact E.size
    rw[<-Gh]at H;rw[<-Gh,<-Kb];clear Gh Kb;have⟨e0,e1,e2,e3,e4,ef⟩:=NU hb7;refine rd 7 λK hK=>?_;go_simp;refine hK.out _ _ ?_ (λH=>?_)
    ·exact Sf.o _ (oO Hm YU _ _ _ _ _)
    clear hK K
    try simp only[Act.put,sA,sB,sC]
    refine Pi j8 ?_ _;have HZB:=I (ZM hb7 (bl true) (U nv) (U D6) d6 (GI xa Z xc));have HZX:=I (oO Hm YU (bl true) (U nv) (U D6) d6 (GI xa Z xc));go_wp2;go_meet;exact⟨g,rfl,HZB,I YU,HZX⟩
   refine Rg (λK hK=>?_) WW
   
   go_simp;refine hK.out _ _ ?_ (λH=>?_)
   ·exact Sf.o _ (E.trans WU)
   clear hK K
   try simp only[Act.put,sA,sB,sC]
   have⟨w6,GD⟩:=e9 (wd.alloc (QD #[bl false,U 0,U 0,d6,d6] 63));have⟨g,Kb⟩:=e9 wd.heap.size;have P':w6.heap[g]?=some (QD #[bl false,U 0,U 0,d6,d6] 63 (0,0)):=by rw[GD,Kb];exact IO rfl
   have Hg:C7 w4 w6:=by rw[GD];exact E.trans WU
   have YU:w4.heap.size<=g:=by rw[Kb];exact E.size
   rw[<-GD]at H;rw[<-GD,<-Kb];clear GD Kb;refine rd 2 λK hK=>?_;go_simp;refine IR (HNG _) λw7 RD=>?_;have Hm:C7 w4 w7:=Hg.trans RD;have hb7:=RD.blk P';go_wp2_with fail;refine KO (Sf _ Hm) λH=>?_;refine tk 5 ?_;have⟨e0,e1,e2,e3,e4,ef⟩:=NU hb7;refine rd 7 λK hK=>?_;go_simp;refine hK.out _ _ ?_ (λH=>?_)
   ·exact Sf.o _ (oO Hm YU _ _ _ _ _)
   clear hK K
   try simp only[Act.put,sA,sB,sC]
   refine Pi j8 ?_ _;have HZB:=I (ZM hb7 (bl true) (U nv) (U D6) d6 (GI xa Z xc));have HZX:=I (oO Hm YU (bl true) (U nv) (U D6) d6 (GI xa Z xc));go_wp2;go_meet;exact⟨g,rfl,HZB,I YU,HZX⟩
  obtain⟨g,rfl,EB,HG4,XC⟩:=hcut;have JZ:=I (hXX.trans XC);have c0c:=XC.o6 c0;clear l0 l1 l2 l3 l4 l5 l6 lf c0 hXX;go_wp2
  go_loopg [7] q (λgk ii wr=>∃(k:Nat) (vp:arQ) (P:l7),b9 (gk+k=q)/\ii=U k/\b9 (P=(rY.take k).map C5/\JL P=k)/\b9 (wr.heap[g]?=some (QD #[bl true,U nv,U D6,vp,GI xa Z xc] 63 (0,0)))/\b9 (WV wr w4 vp P)/\b9 (C7 w4 wr))
  ·exact⟨0,_,[],I j0,rfl,I ⟨by simp,rfl⟩,EB,I qj,XC⟩
  rename Nat=>g1;rename J=>wr;obtain⟨k,vp,P,HK,rfl,I8,EC,LI,XR⟩:=hrel;have D1:=(X4.trans XR).o6 I9.o;have⟨e0,e1,e2,e3,e4,ef⟩:=NU EC.o;by_cases hlt:k<q
  ·have G4:=Rd k q;have KN:=ST k;have hky:=Rd k yn;have aaq:k<yn:=j0;have⟨yb,yo,y1,y2,YI,JB,KY,Na⟩:=(Ft.y.ext XR).at aaq;subst YI;have hv:=Ye.o k (by rw[show rY.length=yn from Ft.y.hlen];exact aaq);simp only at JB;rw[JB]at hv;have FG:=aU hv;have HNY:=I (λw'=>eW y1 y2 w' j0 j0);have m2:=aR wr b5 2 _ _ _ ((XR.block _ (In Ek)).trans Ek);have⟨ny,hny⟩:=e9 (-y1);simp only[<-hny]at HNY;have Ll:W.heap.size<=wr.heap.size:=(X4.trans XR).size;have m2':wr.cell? (O b5 2)=some (GI (some (O yb yo)) yn yc):=m2;have Ty:=I JB;have La:=I (show P++[(ny,y2)]=(rY.take (k+1)).map C5 by
    have Fe:k<JL rY:=(show JL rY=yn from Ft.y.hlen)▸aaq;rw[xl Fe,sr,<-I8.1];rw[Id Fe,Nm]at JB;rw[JB,hny];rfl)
   clear m2 hv FG JB hny;have HKR:=I (λ(w':J) (hx:C7 wr w')=>(⟨hx.o6 e3,hx.o6 m2',hx.o6 KY,hx.o6 Na,XR.trans hx⟩:w'.cell? (O g 3)=some vp/\w'.cell? (O b5 2)=some (GI (some (O yb yo)) yn yc)/\w'.cell? (O yb (yo+k*2))=some (U y1)/\w'.cell? (O yb (yo+k*2+1))=some (U y2)/\C7 w4 w'));have O1:=I (show∀w',C7 w4 w'->w'.cell? (O b5 2)=some (GI (some (O yb yo)) yn yc)from λw' hx=>aR w' b5 2 _ _ _ ((hx.block _ (In Ek)).trans Ek));have HYC:=I (show∀w',C7 w4 w'->w'.cell? (O yb (yo+k*2))=some (U y1)/\w'.cell? (O yb (yo+k*2+1))=some (U y2)from λw' hx=>by
    have⟨u1,u2,u3,u4,hue,Mm,Kr,Q3⟩:=(Ft.y.ext hx).at aaq;obtain⟨rfl,rfl⟩:=aM hue;clear hue;rw[Ty.o]at Mm;simp only[wb]at Mm;obtain⟨rfl,rfl⟩:=Mm;exact⟨Kr,Q3⟩)
   have E:=C7.drew wr;have hs4r:=XR.size;go_upto_region 11 with fail;refine cD (M:=[11]) (S:=λw'=>w'.cell? (O g 3)=some vp/\w'.cell? (O b5 2)=some (GI (some (O yb yo)) yn yc)/\w'.cell? (O yb (yo+k*2))=some (U y1)/\w'.cell? (O yb (yo+k*2+1))=some (U y2)/\C7 w4 w') j8 ?_;have H:=HKR.o _ E;have⟨wd,G⟩:=e9 wr.drew;rw[<-G]at E H;rw[<-G];clear G;have Q5:=E.size;refine Rv ⟨?_⟩;refine Gp 7 λK hK=>?_
   go_simp;go_at_call 106;refine IR (HNY _) λw8 Sy=>?_;have E:C7 wr w8:=E.trans Sy;have hs8:=E.size;go_wp2_with fail;refine KL (HKR _ E) λH=>?_
   refine Gp 8 λK hK=>?_;go_simp;refine hK.out _ _ (λ_=>HKR.o _ (E.trans WU)) ?_;clear hK K
   try simp only[Act.put,sA,sB,sC]
   refine Gp 9 λK hK=>?_;refine dq _ _ j9 w4 vp _ j9 ((LI.ext E).ext WU) _ 1 _ [(ny,y2)] j9 (C2 rfl) (by rw[I8.2];omega) m9 ?_;intro v9 w9 ho Gt r7;have⟨EX,hob,FD⟩:=Z1 EC.o LI.o Gt (E.trans WU) ho;have Nk:C7 w4 w9:=aj ((XR.trans E).trans WU) Gt (λj hj=>(LI.lt j hj).1);have c9:=(NU EX).2.2.2.1;have SM:=(NU EX).2.2.2.2.2;obtain⟨a9,n9,q9,rfl,N'⟩:=ho.var;have Gl:=I hob;have Mg:=I FD;clear ho Gt r7 EX hob FD;refine KL (hJ c9 (hJ (O1 _ Nk) (hJ (HYC _ Nk).1 (hJ (HYC _ Nk).2 Nk)))) λH=>?_;refine lp 10 ?_;refine OJ 11 ?_;refine cQ j8 ?_ _;have Lw:=I (Nk.store (b:=g) 3 HG4.o (GI a9 n9 q9));clear H E c9 SM Nk e0 e1 e2 e3 e4 ef KY Na m2';go_wp2_with fail;refine kf ?_;exact⟨k+1,_,_,I (k8 HK.o),by go_num,I ⟨La,by rw[SW,I8.2];rfl⟩,Mg,Gl,Lw⟩
  have G4:¬(k:Int)<(q:Int):=j0;obtain⟨pa,pn,pc,rfl,La⟩:=LI.var;have XW:=X4.trans XR.o;have⟨q0,q1,q2,q3,q4,qf⟩:=KV.o wr XW;obtain⟨z0,z1,z2,z3,z4,_⟩:=Fi.o wr XW (bl true) (U nv) (U D6) (GI pa pn pc) (GI xa Z xc);have HZ:=I (JU wr XW (bl true) (U nv) (U D6) (GI pa pn pc) (GI xa Z xc));have To:k=q:=k8 HK.o;have HPW:=I (show WV (((((wr.setCell (O (w+1) 0) (bl true)).setCell (O (w+1) 1) (U nv)).setCell (O (w+1) 2) (U D6)).setCell (O (w+1) 3) (GI pa pn pc)).setCell (O (w+1) 4) (GI xa Z xc)) w (GI pa pn pc) (MG (q:Int) V)by
   have e:MG (q:Int) V=P:=by unfold MG;rw[Fb.o,I8.1,To];rfl
   rw[e];have Mn:=HX.size;have TZ:=X4.size;exact(LI.keep λb hb=>by
    have:=(LI.lt b hb).1;rw[GE _ _ _ _ m9,GE _ _ _ _ m9,GE _ _ _ _ m9,GE _ _ _ _ m9,GE _ _ _ _ m9]).mono j0)
  clear XW;go_wp2;refine Fn (v:=.agg #[bl true,U nv,U D6,GI pa pn pc,GI xa Z xc]) (by simp[results,yv,go_sem,z0,z1,z2,z3,z4]) rfl ⟨⟨_,_,_,_,_,_,_,_,by rw[HLO.o];rfl,λ_=>⟨by rw[Fb.o,HNV.o];rfl,HPW⟩⟩,HZ⟩
 have qq0:=@yv;exact H5
def iw(w:J)(base:Nat)(e:Ending)(r:Kg):Prop :=
 ∃pa pn pc sa sn sc,e=ar (.agg #[bl r.ok,GI pa pn pc,GI sa sn sc,U r.rounds])/\WV w base (GI pa pn pc) r.pt/\A5 G7 115 w base (GI sa sn sc) r.st
theorem iw.no(w:J)(base:Nat):iw w base (ar (.agg #[bl false,d6,d6,U 0])) Kg.no :=
 ⟨Option.none,0,0,Option.none,0,0,rfl,qj,A5.nil _ _ _ _⟩
theorem GO{a b c d:arQ}(hb:w.heap[g]?=some (QD #[a,b,c,d] t (0,0))):
 w.cell? (O g 0)=some a/\w.cell? (O g 1)=some b/\w.cell? (O g 2)=some c/\w.cell? (O g 3)=some d/\∀k,w.frozen? (O g k)=false:=by
 refine⟨?_,?_,?_,?_,λk=>mo w g k _ _ hb⟩<;>rw[aR w g _ _ _ _ hb]<;>rfl
theorem ZR{x0 K H G:arQ}(hb:W.heap[r]?=some (QD #[x0,K,H,G] t (0,0)))(v0 v1 v2 v3:arQ):
 ((((W.setCell (O r 0) v0).setCell (O r 1) v1).setCell (O r 2) v2).setCell (O r 3) v3).heap[r]?=some (QD #[v0,v1,v2,v3] t (0,0)) /\
   ∀b,b≠r->((((W.setCell (O r 0) v0).setCell (O r 1) v1).setCell (O r 2) v2).setCell (O r 3) v3).heap[b]?=W.heap[b]?:=by
 have h1:=cE W r 0 _ t v0 hb;have h:=cE _ r 1 _ t v1 h1;have Z:=cE _ r 2 _ t v2 h;have Q:=cE _ r 3 _ t v3 Z;exact⟨Q,λb E=>(GE _ _ _ _ E).trans ((GE _ _ _ _ E).trans ((GE _ _ _ _ E).trans (GE _ _ _ _ E)))⟩
theorem NZ(E:C7 w W)(hr:w.heap.size<=r)(v0 v1 v2 v3:arQ):C7 w ((((W.setCell (O r 0) v0).setCell (O r 1) v1).setCell (O r 2) v2).setCell (O r 3) v3) :=
 (((E.store 0 hr v0).store 1 hr v1).store 2 hr v2).store 3 hr v3
structure Fa(W wr:J)(B:Nat)(vp vs vf:arQ)(pt:l7)(L:k9)(fx:o3)(k:Nat):Prop where
 box:wr.heap[B]?=some (QD #[bl true,vp,vs,U k] 67 (0,0))
 pt:WV wr (B+1) vp pt
 st:A5 G7 115 wr (B+1) vs L
 fx:r' wr (B+1) vf fx
 ext:C7 W wr
 lo:W.heap.size<=B
section
variable{W wr w':J}{B:Nat}{vp vs vf:arQ}{pt:l7}{L:k9}{fx:o3}{k:Nat}
theorem Fa.grow(h:Fa W wr B vp vs vf pt L fx k)(hx:C7 wr w'):Fa W w' B vp vs vf pt L fx k:=⟨hx.blk h.box,h.pt.ext hx,h.st.ext hx,h.fx.ext hx,h.ext.trans hx,h.lo⟩
theorem Fa.lt(h:Fa W wr B vp vs vf pt L fx k):B<wr.heap.size:=In h.box
theorem Fa.off{v:arQ}(h:∀k,v.ownBlock=some k->B+1<=k/\k<wr.heap.size)(j:Nat)(u:arQ):∀k,v.ownBlock=some k->(wr.setCell (O B j) u).heap[k]?=wr.heap[k]?:=λk E=>GE _ _ _ _ (by have:=(h k E).1;show k≠B;omega)
theorem Fa.acT(h:Fa W wr B vp vs vf pt L fx k){Ut:arQ}{pt':l7}(E:WV wr (B+1) Ut pt'):Fa W (wr.setCell (O B 1) Ut) B Ut vs vf pt' L fx k :=
 ⟨cE wr B 1 _ _ _ h.box,E.keep (Fa.off E.lt 1 _),h.st.keep (Fa.off h.st.lt 1 _),h.fx.keep (Fa.off h.fx.lt 1 _),h.ext.store 1 h.lo _,h.lo⟩
theorem Fa.setK(h:Fa W wr B vp vs vf pt L fx k){k':Nat}{i:Int}(hi:i=(k':Int)):Fa W (wr.setCell (O B 3) (U i)) B vp vs vf pt L fx k':=by
 subst hi;exact⟨cE wr B 3 _ _ _ h.box,h.pt.keep (Fa.off h.pt.lt 3 _),h.st.keep (Fa.off h.st.lt 3 _),h.fx.keep (Fa.off h.fx.lt 3 _),h.ext.store 3 h.lo _,h.lo⟩
theorem Fa.ach(h:Fa W wr B vp vs vf pt L fx k){w1:J}(hx:C7 wr w1){E:arQ}{L':k9}(hg:w1.grownBy w' vs.ownBlock)(ho:A5 G7 115 w' (B+1) E L'):Fa W (w'.setCell (O B 2) E) B vp E vf pt L' fx k:=by
 have hb:=(hg.block B (In (hx.blk h.box)) (λe=>by have:=(h.st.lt B e.symm).1;omega)).trans (hx.blk h.box);have H:WV w' (B+1) vp pt:=cw (h.pt.ext hx) (h.st.ext hx) Fd hg;have G:r' w' (B+1) vf fx:=cw (h.fx.ext hx) (h.st.ext hx) Fd hg;exact⟨cE w' B 2 _ _ _ hb,H.keep (Fa.off H.lt 2 _),ho.keep (Fa.off ho.lt 2 _),G.keep (Fa.off G.lt 2 _),((h.ext.trans hx).grown hg (λj K=>by have:=(h.st.lt j K).1;have:=h.lo;omega)).store 2 h.lo _,h.lo⟩
theorem Fa.aif(h:Fa W wr B vp vs vf pt L fx k){w1:J}(hx:C7 wr w1){Ut:arQ}{pt':l7}(hg:w1.grownBy w' vp.ownBlock)(ho:WV w' (B+1) Ut pt'):Fa W (w'.setCell (O B 1) Ut) B Ut vs vf pt' L fx k:=by
 have hb:=(hg.block B (In (hx.blk h.box)) (λe=>by have:=(h.pt.lt B e.symm).1;omega)).trans (hx.blk h.box);have G:A5 G7 115 w' (B+1) vs L:=cw (h.st.ext hx) (h.pt.ext hx) Fd hg;have E:r' w' (B+1) vf fx:=cw (h.fx.ext hx) (h.pt.ext hx) Fd hg;exact⟨cE w' B 1 _ _ _ hb,ho.keep (Fa.off ho.lt 1 _),G.keep (Fa.off G.lt 1 _),E.keep (Fa.off E.lt 1 _),((h.ext.trans hx).grown hg (λj H=>by have:=(h.pt.lt j H).1;have:=h.lo;omega)).store 1 h.lo _,h.lo⟩
theorem Fa.aih(h:Fa W wr B vp vs vf pt L fx k){w1:J}(hx:C7 wr w1){E:arQ}{G:o3}(hg:w1.grownBy w' vf.ownBlock)(ho:r' w' (B+1) E G):Fa W w' B vp vs E pt L G k:=by
 have hb:=(hg.block B (In (hx.blk h.box)) (λe=>by have:=(h.fx.lt B e.symm).1;omega)).trans (hx.blk h.box);have Q:WV w' (B+1) vp pt:=cw (h.pt.ext hx) (h.fx.ext hx) Fd hg;have K:A5 G7 115 w' (B+1) vs L:=cw (h.st.ext hx) (h.fx.ext hx) Fd hg;exact⟨hb,Q,K,ho,(h.ext.trans hx).grown hg (λj H=>by have:=(h.fx.lt j H).1;have:=h.lo;omega),h.lo⟩
end
structure GR(lo:Nat)(w w':J):Prop where
 size:w.heap.size<=w'.heap.size
 block:∀k,lo<=k->k<w.heap.size->w'.heap[k]?=w.heap[k]?
def Nb(lo hi:Nat)(v:arQ):Prop:=∀k,v.ownBlock=some k->k<lo∨hi<=k
theorem Nb.of{lo hi:Nat}(h:∀k,v.ownBlock=some k->base<=k/\k<w.heap.size)(hl:w.heap.size<=lo):Nb lo hi v:=λk E=>xt (k8 ((h k E).2))
theorem Nb.nil(lo hi n c:Nat):Nb lo hi (GI none n c):=λk E=>by cases E
theorem Nb.near{lo hi:Nat}{E:arQ}(h:Nb lo hi v)(H:Hx w v E)(hs:hi<=w.heap.size):Nb lo hi E:=λk K=>by
 rcases H k K with G|G
 ·exact h k G
 exact Ws j0
section
variable{lo:Nat}{w w1 w2:J}
theorem GR.refl(lo:Nat)(w:J):GR lo w w:=⟨i8 _,λ_ _ _=>rfl⟩
theorem GR.ext(h:GR lo w w1)(hx:C7 w1 w2):GR lo w w2:=⟨fy h.size hx.size,λk G E=>(hx.block k (Pw E h.size)).trans (h.block k G E)⟩
theorem GR.grown(h:GR lo w w1){v:arQ}(hg:w1.grownBy w2 v.ownBlock)(ho:Nb lo w v):GR lo w w2:=⟨fy h.size hg.size,λk G E=>(hg.block k (Pw E h.size) (λe=>by have:=ho k e.symm;omega)).trans (h.block k G E)⟩
theorem GR.set(h:GR lo w w1){B j:Nat}(hB:B<lo)(v:arQ):GR lo w (w1.setCell (O B j) v):=⟨by rw[World.size_setCell];exact h.size,λk G E=>(GE _ _ _ _ (by show k≠B;omega)).trans (h.block k G E)⟩
theorem GR.on(h:GR lo w w1){P:J->Prop}(ho:On lo w P):On lo w1 P:=ho.keep h.size h.block
theorem GR.blk(h:GR lo w w1){g:Nat}{o:Obj}(hg:lo<=g)(hb:w.heap[g]?=some o):w1.heap[g]?=some o:=(h.block g hg (In hb)).trans hb
theorem GR.ints(h:GR lo w w1){base:Nat}{v:arQ}{l:o3}(hb:lo<=base)(ho:r' w base v l):r' w1 base v l:=ho.keep λk E=>h.block k (k8 ((ho.lt k E).1)) (ho.lt k E).2
end
theorem qK.lpc{e:Ending}{A:l8}{B:o3}{C:l7}{ok:Bool}(h:qK w base e A B C ok):
 ∃a E ca b nb cb c nc cc,e=ar (.tuple #[Ig a E ca b nb cb c nc cc,bl ok])/\Kh w a E ca b nb cb c nc cc A B C:=by
 obtain⟨va,vb,vc,vs,rfl,K,Q,H,G,h5⟩:=h;obtain⟨a,E,ca,rfl,_⟩:=K.var;obtain⟨b,nb,cb,rfl,_⟩:=H.var;obtain⟨c,nc,cc,rfl,_⟩:=G.var;exact⟨_,_,_,_,_,_,_,_,_,rfl,(show bZ w base (GI a E ca) A from⟨vs,K,Q⟩).Kq,H.ints,G.rats⟩
theorem A5.QH{cap:Nat}{L:k9}(h:A5 G7 115 w base (GI a n cap) L):GC w a n cap L:=h.Hr.QH
theorem zt(x:Int)(P:k9)(t:Int×Int×Int):(x::P.map λf=>f.1)++[t.1]=x::(P++[t]).map λf=>f.1:=by simp
theorem Xh{V:o3}{L:k9}{s:Int}(hs:s<=1000)(h:∀f∈L,f.1<=1000):∀k:Nat,(s::L.map (·.1))[k]?.getD 0<=9223372036854775807:=by
 intro k;by_cases E:k<JL (s::L.map (·.1))
 ·rw[Id E,Nm];have hm:=eN E;rcases SU.1 hm with e|e
  ·rw[e];omega
  have⟨f,G,H⟩:=C'.1 e;rw[<-H];have:=h f G;omega
 rw[q8 j0];decide
end
section
variable{V:o3}{L:k9}{n:Nat}
theorem r'.agq(w:J)(base:Nat)(x:Int)(hb:base<=w.heap.size):r' (w.alloc (QD #[U x] 3)) base (EQ w 1 1) [x] :=
 wA w #[U x] 1 hb (by simp[maxLen]) rfl
theorem ao{p:Int}(E:JL V=n):fj p V L=decide (jS p (((n:Int)-1)::L.map λf=>f.1)=p):=by
 unfold fj;rw[E,CY]
theorem Dh{a b:Bool}(h:a=b):ar (bl a)=ar (bl b):=by rw[h]
def gf(h:σ:=by
 rw[HJ.o]at EP;refine er ?_;exact⟨k+1,_,_,_,I (k8 HK.o),rfl,by go_num,EP,FU⟩
 ):σ:=h
theorem Dp{w:J}{p:Int}{a:l9}{cap:Nat}(hn:JL V=n)(GQ:n<=1000){fa:l9}{H IV:Nat}(h:GC w fa H IV L)(hfn:H<=1000000)(hL:∀f∈L,f.1<=1000):
 f8 109 #[FS p a n cap,GI fa H IV] w (bl (fj p V L)):=by
 have⟨W,Z⟩:=e9 (w.alloc (QD #[U p,GI a n cap] 31));refine Op (show C7 w W by rw[Z];exact WU) (show W.heap.size=w.heap.size+1 by rw[Z];simp) (show W.cell? (O w 0)=some (U p)by rw[Z];simp) (show W.cell? (O w 1)=some (GI a n cap)by rw[Z];simp) λHX DW I9 Jt=>?_;refine t8 (h.ext HX) h.hlen hL λHF GK FN=>?_;have Pd:=dk ((n:Int)-1);have HD:=I (ao (p:=p) (L:=L) hn);clear hn h hL;have QN:b9 (r' (W.alloc (QD #[U ((n:Int)-1)] 3)) W (EQ W 1 1) (((n:Int)-1)::(L.take 0).map λf=>f.1)):=r'.agq _ _ _ (i8 _);unfold f8;go_in
 go_upto_region 1 with fail;rw[<-Z];have e0:=I9.o;have e1:=Jt.o;rw[DW.o]at QN;clear Z;go_wp2
 go_loopg [5,6] H (λgk ff ii wr=>∃(k:Nat) (aF:l9) (nF cF:Nat),b9 (gk+k=H)/\ff=GI aF nF cF/\ii=U k/\b9 (r' wr (w+1) (GI aF nF cF) (((n:Int)-1)::(L.take k).map λf=>f.1))/\b9 (C7 W wr))
 ·exact⟨0,_,_,_,I j0,by rw[DW.o],rfl,QN,I WU⟩
 obtain⟨k,aF,nF,cF,HK,rfl,rfl,HO,GV⟩:=hrel;have hsz:=GV.size;rw[DW.o]at hsz;by_cases E:k<H
 ·obtain⟨fb,NQ,hfe,hfx,WJ⟩:∃b off,fa=some (O b off)/\L[k]?=some (L[k]?.getD (0,0,0))/\wr.cell? (O b (off+k*3))=some (U (L[k]?.getD (0,0,0)).1):=by
   have⟨b,off,e,hc⟩:=(HF.ext GV).cell k E;have Fe:k<JL L:=by rw[GK.o];exact E
   exact⟨b,off,e,by rw[Id Fe];rfl,(hc k E).1⟩
  subst hfe;have HJ:=I (show(((n:Int)-1)::(L.take k).map λf=>f.1)++[(L[k]?.getD (0,0,0)).1]=((n:Int)-1)::(L.take (k+1)).map λf=>f.1 by
   rw[zt,<-fQ hfx])
  have⟨s,hs⟩:=e9 ((L[k]?.getD (0,0,0)).1);rw[<-hs]at WJ HJ;have Lz:=I (show(((n:Int)-1)::(L.take k).map λf=>f.1).length<=1000001 by rw[nR,dc,k6];omega);clear hfx hs
  go_wp2_with (first
   | (at_builtin;refine bK rfl _ _ rfl (w+1) (GI aF nF cF) _ rfl (HO.ext WU) _ 1 _ [s] rfl (K4 j7) (k8 Lz.o) m9 ?_;intro v2 w2 ho hg r7;have FU:=I ((GV.trans WU).grown hg (λj hj=>by rw[DW.o];exact(HO.lt j hj).1));obtain⟨a2,n2,c2,rfl,Hb⟩:=ho.var;have EP:=I ho;clear ho hg r7))
  exact gf
 have o7:k=H:=k8 HK.o;have Ui:b9 (L.take k=L):=bR (by rw[GK.o];omega);rw[Ui.o]at HO;have hnF:nF<=1000001:=by
  have h1:=HO.ints.hlen;simp only[nR,dc]at h1;have:=GK.o;omega
 have Uj:=I (λ(w':J) (hx:C7 wr w')=>U1 (n:=p) (HO.ext hx).ints (Xh (V:=V) j0 FN) j0);generalize jS p (((n:Int)-1)::L.map λf=>f.1)=rk at Uj HD;have c0:=GV.o6 I9.o;have Uo:=I (show(rk == p)=fj p V L by rw[HD.o];rfl);go_wp2_with fail;have G:=C7.drew wr;refine nE (S:=(λw'=>w'.cell? (O w 0)=some (U p))) j8 ?_ (λo9=>?_)
 ·exact G.o6 c0
 refine mq ⟨?_⟩;refine tk 4 ?_;refine tk 5 ?_;refine rd 3 λK hK=>?_;go_simp
 (go_at_call 184;refine IR (Uj _ G) λw3 B5=>?_;have G:=G.trans B5)
 go_wp2_with fail;refine KO (G.o6 c0) λo9=>?_;refine tk 6 ?_;refine tk 7 ?_;refine Pi j8 ?_ _;have HZ:=I ((HX.trans GV).trans G);clear G c0 o9;go_wp2;go_ret;exact⟨Dh Uo.o,HZ⟩
theorem CR{p:Int}(h:(ak p V&&p == 1)=false):J4 p V (JL (Fj V [])+1) [] 0=Iw p V:=by
 unfold Iw;cases hg:ak p V
 ·rw[f7 j7];exact tA (λhc=>by have:=(jX hc.1).1;rw[hg]at this;cases this)
 rw[f9 rfl];rw[hg,y6]at h;rw[f7 ri]
theorem CQ{p:Int}{f k:Nat}(h:E0 p V L=true)(hs:(cV p.toNat V L).status=1):
 J4 p V (f+1) L k=if fj p V (ep V L (cV p.toNat V L))=true then⟨true,L' p.toNat (cV p.toNat V L),ep V L (cV p.toNat V L),k+1⟩ else J4 p V f (ep V L (cV p.toNat V L)) (k+1):=by
 conv=>lhs;unfold J4
 rw[f9 ⟨h,hs⟩]
theorem WV.agr(w:J)(base:Nat)(x y:Int)(hb:base<=w.heap.size):WV (w.alloc (QD #[U x,U y] 56)) base (EQ w 1 1) [(x,y)] :=
 ⟨by simp[Fw],.inr ⟨w.heap.size,1,_,rfl,hb,vC w _,i8 _,by decide,rfl,by simp[Fw]⟩⟩
def FO(h:σ:=by
 go_wp2;refine Fn (v:=.agg #[bl false,d6,d6,U 0]) (by simp[results,qq0,go_sem,z0,z1,z2,z3]) rfl ⟨by rw[Hp.o];exact iw.no _ _,HZ⟩
 ):σ:=h
def Ns(h:σ:=by
 have h1:(Fj V L).length<=V.length-2:=eG L (V.length-2);have h2:=HVL.o;have h3:=HM.o;omega
 ):σ:=h
theorem se{w:J}{p:Int}{a:l9}{cap:Nat}(h:d9 w a n cap V):
 Calls Tryz.prog 44 #[FS p a n cap] w λe w'=>iw w' w e (Iw p V)/\C7 w w':=by
 have⟨W,hW⟩:=e9 ((w.alloc (QD #[U p,GI a n cap] 31)).alloc (QD #[bl false,d6,d6,U 0] 67));have Ml:W.heap.size=w.heap.size+2:=by rw[hW];simp
 have hX:C7 w W:=by rw[hW];exact WU.trans WU
 refine z6 (show W.heap[w.heap.size+1]?=some (QD #[bl false,d6,d6,U 0] 67 (0,0))by rw[hW];exact IO j7) (show W.cell? (O w 0)=some (U p)by rw[hW];exact C7.o6 WU j7) (show W.cell? (O w 1)=some (GI a n cap)by rw[hW];exact C7.o6 WU j7) (h.ext hX) hX h.hlen λDO I9 Jt HI HX HVL=>?_;have⟨hcapn,hcapm⟩:=h.aq9;refine Op (λ(w':J) (hx:C7 W w') (v0 v1 v2 v3:arQ)=>GO (ZR ((hx.block _ j0).trans DO) v0 v1 v2 v3).1) (λ(w':J) (hx:C7 W w') (v0 v1 v2 v3:arQ)=>NZ (w:=w) (r:=w.heap.size+1) (HX.trans hx) (b7 _) v0 v1 v2 v3) (λ(w':J) (hx:C7 W w') (v0 v1 v2 v3:arQ)=>(ZR ((hx.block (w+1) j0).trans DO) v0 v1 v2 v3).2) (λ(w':J) (hx:C7 W w')=>GO ((hx.block _ j0).trans DO)) λFi JU YB KV=>?_;have⟨B,hB⟩:=e9 (w.heap.size+2);have⟨w1,Hn⟩:=e9 (W.alloc (QD #[bl true,d6,d6,U 0] 67));have X1:=I (show C7 W w1 by rw[Hn];exact WU)
 have HO1:=I (show Fa W w1 B d6 (d6) d6 [] [] [] 0 from
  ⟨by rw[Hn];exact IO j0,qj,A5.nil _ _ _ _,WD _ _ _ _,X1,by omega⟩)
 have Qf:=I (bY (p:=p) (HI.ext X1));have⟨gb,H9⟩:=e9 (ak p V);rw[<-H9]at Qf;have EB:=I H9;have I2:=I hB;have WS:W.heap.size<=B:=j0;have⟨o,HOO⟩:=GT (Iw p V);rw[<-HOO.o];clear h hX H9;go_in
 go_upto_region 2 with fail;rw[<-hW,<-Hn,show w.heap.size+1+1=B from hB.symm];clear hW Hn hB
 go_cut [17] (λs17 wx=>s17=bl (gb&&p == 1)/\b9 (C7 w1 wx))
 case first =>
  have c0:=X1.o6 I9.o;have c1:=X1.o6 Jt.o;cases gb
  ·go_wp2_with fail;refine i7 Qf λwx Ir=>?_;go_wp2;go_meet;exact⟨rfl,Ir⟩
  go_wp2_with fail;refine i7 Qf λwx hx=>?_;have Ir:=I hx;have c0:=hx.o6 c0;have c1:=hx.o6 c1;go_wp2;go_meet;exact⟨rfl,Ir⟩
 obtain⟨rfl,JZ⟩:=hcut;have Ly:=I (HO1.grow JZ);have⟨bb,Gf⟩:=GT ((gb&&p == 1));rw[<-Gf.o];generalize wc=w2 at Ly JZ⊢;cases bb
 ·have HN:=I (show J4 p V (JL (Fj V [])+1) [] 0=o by rw[HOO.o];exact CR (by rw[<-EB.o];exact Gf.symm));go_wp2
  go_loopg [] (JL (Fj V [])+1) (λgk wr=>∃(k:Nat) (L:k9) (pt:l7) (vp vs:arQ),b9 (gk+k=JL (Fj V [])+1)/\b9 (Fa W wr B vp vs d6 pt L [] k)/\b9 (JL (Fj V L)+1<=gk)/\b9 (∀f∈L,f.1<=1000)/\b9 (JL L<=32*k)/\b9 (k<=40)/\b9 (J4 p V gk L k=o))
  ·exact⟨0,[],[],_,_,I j0,Ly,I (i8 _),I (λf hf=>by cases hf),I j7,I j0,HN⟩
  rename Nat=>g1;rename J=>y9;obtain⟨k,L,pt,vp,vs,HK,HO,Zj,FN,EW,FP,Sb⟩:=hrel;obtain⟨aS,nS,cS,rfl,Yq⟩:=HO.st.var;have hk40:=FP.o;have hnS:nS<=1300:=by rw[<-Yq.o];have:=EW.o;omega
  have⟨b0,b1,b2,b3,bf⟩:=GO HO.box;have e0:=HO.ext.o6 I9.o;have e1:=HO.ext.o6 Jt.o;have EO:=I (Do (p:=p) (HI.ext HO.ext) HO.st.QH j0);have⟨ok,Fs⟩:=GT (E0 p V L);rw[<-Fs.o]at EO;go_wp2_with fail;refine EO.mono ?_;rintro e w4 ⟨Tl,DN⟩;obtain⟨la,KB,KF,lb,KA,KE,lc,Kz,KD,rfl,Om⟩:=Tl.lpc;unfold Ig;have⟨w5,Fc⟩:=e9 (w4.alloc (bT la KB KF lb KA KE lc Kz KD));have Ey:C7 w4 w5:=by rw[Fc];exact WU
  have K5:=I (DN.trans Ey);have X5:=I (HO.ext.trans K5);have R8:=ls (Om.ext Ey);have⟨r,Kk⟩:=GT (fc (OH p V L) (OG p V L) (OF p V L));rw[<-Kk.o]at R8;have Ff:=I R8;have t0:=aw (show w5.heap[w4.heap.size]?=some (QD #[GI la KB KF,GI lb KA KE,GI lc Kz KD] 105 (0,0))by rw[Fc];exact IO rfl);have t1:=aI (show w5.heap[w4.heap.size]?=some (QD #[GI la KB KF,GI lb KA KE,GI lc Kz KD] 105 (0,0))by rw[Fc];exact IO rfl);have t2:=aJ (show w5.heap[w4.heap.size]?=some (QD #[GI la KB KF,GI lb KA KE,GI lc Kz KD] 105 (0,0))by rw[Fc];exact IO rfl);have JP:=I K5.size;go_upto_region 6 with fail;rw[<-Fc];clear R8 Fc Ey DN Om Tl b0 b1 b2 b3 bf e0 e1;go_wp2_with fail;refine Ff.mono ?_;rintro e w6 ⟨⟨xa,xn,xc,ya,yn,yc,ra,rn,rc,rfl,Ka⟩,Hg⟩;have⟨w7,Gh⟩:=e9 (w6.alloc (cZ r xa xn xc ya yn yc ra rn rc));have Hm:C7 w6 w7:=by rw[Gh];exact WU
  have K7:=I ((K5.trans Hg).trans Hm);have X7:=I (HO.ext.trans K7);have Ft:=I ((Ka.ext Hm).mono JP);have Kn:=I (show w7.heap[w6.heap.size]?=some (cZ r xa xn xc ya yn yc ra rn rc)by rw[Gh];exact IO rfl);have QQ:=I (show y9.heap.size<=w6.heap.size by have h1:=Hg.size;have h2:=JP.o;omega);have⟨q,hq⟩:=e9 p.toNat;have Fv:=I (λ(h:ok=true)=>show r=cV q V L by
   have DL:=Fs.symm.trans h;have⟨E1,E2,E3⟩:=tN DL;rw[Kk.o,E1,E2,E3,hq];exact(Vp DL).symm)
  have HQ:=I hq;obtain⟨rs,rX,rY,rr,⟨Ei,D6⟩,rp⟩:=r;unfold H8;go_upto_region 7 with fail;rw[<-Gh];clear Ka Hg Hm Gh t0 t1 t2 hq;generalize w6.heap.size=G at Kn QQ⊢;have Tv:=In Kn.o;have⟨l0,l1,l2,l3,l4,l5,l6,lf⟩:=Ef Kn.o
  try simp only at l0 l1 l2 l3 l4 l5 l6
  by_cases hgo:ok=true/\rs=1
  ·obtain⟨rfl,rfl⟩:=hgo;obtain⟨hgm,Oh,_,_⟩:=jX Fs.symm;obtain⟨_,h32,D4,Hh,JF,_⟩:=kg hgm;have M4:=I (Fv rfl);refine t8 (uw Fs.symm (by rw[<-HQ.o,<-M4.o])) (rG Fs.symm (by rw[<-HQ.o,<-M4.o])) (λf=>CQ (f:=f) (k:=k) Fs.symm (by rw[<-HQ.o,<-M4.o])) λHSZ HFE Yp=>?_;rw[<-HQ.o,<-M4.o]at HSZ HFE Yp;rw[<-HQ.o]at D4 Hh JF;have HGM:=I hgm;have EJ:=I D4;have GQ:n<=32:=by rw[<-HVL.o];exact h32
   have IB:2<=q:=j0;clear hgm h32 D4;have⟨TY,MH,LQ,JB⟩:=HSZ.o
   try simp only at TY MH LQ JB
   have FG:=aU LQ
   try simp only at FG
   refine t8 TY MH JB λHXL MZ Ye=>?_;have Lj:q+1=yn:=by have h1:=Ft.y.here.hlen;have h2:=MZ.o;(try simp only at h1);omega
   have HQ2:=I IB;clear TY MH LQ JB Oh;refine t8 (HO.grow K7) HO.lt (GR.refl y9 w7) λII J1 Ox=>?_;have⟨b0,b1,b2,b3,bf⟩:=GO II.box;obtain⟨k1,Gj⟩:∃x:Int,x=(k:Int)+1:=⟨_,rfl⟩;have hwk:=wq ((k:Int)+1) k1;have Zh:=I (show k1=((k+1:Nat):Int)by omega);clear Gj;have⟨w8,Q0⟩:=e9 (w7.setCell (O B 3) (U k1));have Mc:=I (II.setK (k':=k+1) Zh);have Sa:=I (Ox.set (j:=3) J1.o (U k1));rw[<-Q0]at Mc Sa;go_upto_region 10 with fail;rw[<-Q0];clear Q0 b0 b1 b2 b3 bf hwk;have⟨b0,b1,b2,b3,bf⟩:=GO Mc.box;have⟨w9,hw9⟩:=e9 (w8.setCell (O B 1) d6);have Gl:=I (Mc.acT qj);have R':=I (Sa.set (j:=1) J1.o d6);rw[<-hw9]at Gl R';go_upto_region 11 with fail;rw[<-hw9];clear hw9 b0 b1 b2 b3 bf l0 l1 l2 l3 l4 l5 l6 lf;refine t8 (R'.blk QQ.o Kn) (R'.on Ft.x) (R'.on Ft.y) λMg HLRX HLRY=>?_;go_wp2
   go_loopg [7] q (λgk ii wr=>∃(j:Nat) (Ut:arQ),b9 (gk+j=q)/\ii=U j/\b9 (Fa W wr B Ut (GI aS nS cS) d6 ((rY.take j).map C5) L [] (k+1))/\b9 (GR y9 w9 wr)/\b9 (Nb y9 w9 Ut))
   ·exact⟨0,_,I j0,rfl,Gl,I (GR.refl _ _),I (Nb.nil _ _ _ _)⟩
   rename Nat=>g2;rename J=>wr2;obtain⟨j,vp2,HJ,rfl,Ec,GJ,TD⟩:=hrel;obtain⟨aP2,nP2,cP2,rfl,HNP2⟩:=Ec.pt.var;have c0:=Ec.ext.o6 I9.o;by_cases hjq:j<q
   ·have hjy:j<yn:=by omega
    have hjp:(j:Int)<p:=k8 EJ.o;have⟨yb,Et,y1,y2,YI,hyj,hyc1,hyc2⟩:=(GJ.on HLRY).here.at hjy;subst YI
    try simp only at hyj
    have⟨l0,l1,l2,l3,l4,l5,l6,lf⟩:=Ef (GJ.blk QQ.o Mg)
    try simp only at l0 l1 l2 l3 l4 l5 l6
    have⟨b0,b1,b2,b3,bf⟩:=GO Ec.box;have F9:=I (show((rY.take j).map C5)++[(-y1,y2)]=(rY.take (j+1)).map C5 by
     have F0:j<JL rY:=k8 MZ.o;rw[xl F0,sr,TQ];rw[Id F0,Nm]at hyj;rw[hyj];rfl)
    have Na:-9223372036854775807<=y1/\y1<=9223372036854775807:=by
     have:=aU (Ye j (k8 MZ.o));rw[hyj]at this;simp only at this;omega
    refine t8 (show((rY.take j).map C5).length<=100 by rw[dc,k6];omega) Ec.lt hyj λKw QT HYJ=>?_;clear hyj;go_wp2_with fail;have Z:=C7.drew wr2;have o8:=I λw' (h:C7 wr2 w')=>TX (h.o6 b1) (TX (h.o6 l2) (TX (h.o6 hyc1) (h.o6 hyc2)));refine cD (M:=[11]) (S:=λw'=>w'.cell? (O B 1)=some (GI aP2 nP2 cP2)/\w'.cell? (O G 2)=some (GI (some (O yb Et)) yn yc)/\w'.cell? (O yb (Et+j*2))=some (U y1)/\w'.cell? (O yb (Et+j*2+1))=some (U y2)) j8 ?_;have o9:=o8.o _ Z;have⟨wd,hwd⟩:=e9 wr2.drew;rw[<-hwd]at Z o9;rw[<-hwd];clear hwd;refine Rv ⟨?_⟩;refine Gp 7 λK hK=>?_;go_simp;go_at_call 106;refine IR (eW y1 y2 _ j0 j0) λMh Ht=>?_;have Z:C7 wr2 Mh:=Z.trans Ht;have Wm:=Z.size;go_wp2_with fail;refine KL (o8 _ Z) λo9=>?_
    refine Gp 8 λK hK=>?_;go_simp;refine hK.out _ _ (λ_=>o8.o _ (Z.trans WU)) ?_;clear hK K
    try simp only[Act.put,sA,sB,sC]
    refine Gp 9 λK hK=>?_;refine dq _ _ j9 (B+1) (GI aP2 nP2 cP2) _ j9 (Ec.pt.ext (Z.trans WU)) _ 1 _ [(-y1,y2)] j9 (C2 j7) (k8 Kw.o) RG ?_;intro v13 TV ho hg r7;refine t8 ((hg.block B RG (λe=>by have:=(Ec.pt.lt B e.symm).1;omega)).trans ((Z.trans WU).blk Ec.box)) ((GJ.ext (Z.trans WU)).grown hg TD) (TD.near r7 (by have h1:=GJ.size;simp;omega)) λYE OV TL=>?_;obtain⟨Y1,n13,c13,rfl,acA⟩:=ho.var;have I1:=I (Ec.aif (Z.trans WU) hg ho);have⟨c0,c1,c2,c3,cf⟩:=GO YE.o;have⟨m0,m1,m2,m3,m4,m5,m6,mf⟩:=Ef (OV.blk QQ.o Mg)
    (try simp only at m0 m1 m2 m3 m4 m5 m6)
    have⟨yb',agb,y1',y2',hye',hyj',hyd1,hyd2⟩:=(OV.on HLRY).here.at hjy;obtain⟨rfl,rfl⟩:=aM hye';clear hye';have hy12:=HYJ.symm.trans hyj';simp only[wb]at hy12;obtain⟨rfl,rfl⟩:=hy12;clear ho hg r7 hyj';refine KL (hJ c1 (hJ m2 (hJ hyd1 hyd2))) λo9=>?_;refine lp 10 ?_;refine OJ 11 ?_;refine cQ j8 ?_ _;rw[F9.o]at I1;have⟨w14,NB⟩:=e9 (TV.setCell (O B 1) (GI Y1 n13 c13));have PS:=I (OV.set (j:=1) J1.o (GI Y1 n13 c13));rw[<-NB]at I1 PS;go_upto_region 13 with fail;rw[<-NB];clear NB c0 c1 c2 c3 cf m0 m1 m2 m3 m4 m5 m6 mf b0 b1 b2 b3 bf l0 l1 l2 l3 l4 l5 l6 lf hyd1 hyd2 hyc1 hyc2 o9 Z;go_wp2_with fail
    refine NJ ?_;exact⟨j+1,_,I (k8 HJ.o),by go_num,I1,PS,TL⟩
   have hjq':j=q:=k8 HJ.o;have hjp:¬(j:Int)<p:=k8 EJ.o;rw[hjq']at Ec;have HS2':=I GJ.o;have⟨b0,b1,b2,b3,bf⟩:=GO Ec.box;have e1:=Ec.ext.o6 Jt.o;have PW:=I (ot p a n cap j0 Ec.st.QH);clear hjq';go_wp2_with fail;refine PP PW λPc v ho OK=>?_;obtain⟨a11,m,c11,rfl,HM⟩:=ho.var;have TH:=I (Ec.grow OK);have OW:=I (GJ.ext OK);have HS911:b9 (w9.heap.size<=Pc.heap.size):=OW.size;have HFN:=I (show bC L (n-2)=Fj V L by unfold Fj;rw[HVL.o]);rw[HFN.o]at ho HM;refine Op (ho.mono (show y9.heap.size<=wr2.heap.size by have h1:=GJ.size;have h2:=R'.size;have h3:=K7.size;omega)) (OW.on HLRX) (OW.blk QQ.o Mg) (Nb.of (hi:=Pc.heap.size) HO.st.lt (i8 _)) λabw Yv PZ HOS=>?_;have hmx:m<=xn:=by have h1:=Yv.here.hlen;have h2:=HXL.o;have h3:=HM.o;(try simp only at h1);omega
   have Wy:m<=32:=by
    exact Ns
   have aeI:=I (show(L++F7 (Fj V L) ⟨1,rX,rY,rr,(Ei,D6),rp⟩ 0)=L by rw[uu,C3]);clear ho b0 b1 b2 b3 bf e1 c0 hjp hjq;go_wp2
   go_loopg [9] m (λgk ii wr=>∃(j:Nat) (vs':arQ),b9 (gk+j=m)/\ii=U j/\b9 (Fa W wr B (GI aP2 nP2 cP2) vs' d6 ((rY.take q).map C5) (L++F7 (Fj V L) ⟨1,rX,rY,rr,(Ei,D6),rp⟩ j) [] (k+1))/\b9 (GR y9 Pc wr)/\b9 (Nb y9 Pc vs'))
   ·exact⟨0,_,I j0,rfl,I (by rw[aeI.o];exact TH),I (GR.refl _ _),HOS⟩
   obtain⟨j3,vs3,HJ3,rfl,B9,K9,aeJ⟩:=hrel;obtain⟨aS3,nS3,cS3,rfl,HNS3⟩:=B9.st.var;by_cases Ln:j3<m
   ·have hjx:j3<xn:=by omega
    have⟨fb,NQ,hfe,WJ⟩:=(K9.ints (i8 _) abw).ints.at Ln;subst hfe;have⟨xb,Nu,x1,x2,Tf,hxj,hxc1,hxc2⟩:=(K9.on Yv).here.at hjx;subst Tf;have⟨l0,l1,l2,l3,l4,l5,l6,lf⟩:=Ef (K9.blk QQ.o PZ)
    try simp only at l0 l1 l2 l3 l4 l5 l6 hxj
    have⟨s,hs⟩:=e9 ((Fj V L)[j3]?.getD 0);rw[<-hs]at WJ;by_cases B8:0<x1
    ·have Qe:=I (show(L++F7 (Fj V L) ⟨1,rX,rY,rr,(Ei,D6),rp⟩ j3)++[(s,-Ei,D6)]=L++F7 (Fj V L) ⟨1,rX,rY,rr,(Ei,D6),rp⟩ (j3+1)by
      rw[lk,f9 (by show 0<(rX[j3]?.getD (0,0)).1;rw[hxj];exact B8),<-hs,yf])
     have⟨b0,b1,b2,b3,bf⟩:=GO B9.box;have Kw:=I (show(L++F7 (Fj V L) ⟨1,rX,rY,rr,(Ei,D6),rp⟩ j3).length<=2000 by
      rw[SW];have h1:=mD (Fj V L) ⟨1,rX,rY,rr,(Ei,D6),rp⟩ j3;have h2:=EW.o;omega)
     have QT:=I B9.lt;have Rj:=I hs;clear hs;go_wp2_with fail;have Z:=C7.drew wr;have o8:=I λw' (h:C7 wr w')=>TX (h.o6 b2) (TX (h.o6 l4) (TX (h.o6 l5) (h.o6 WJ)));refine cD (M:=[13]) (S:=λw'=>w'.cell? (O B 2)=some (GI aS3 nS3 cS3)/\w'.cell? (O G 4)=some (U Ei)/\w'.cell? (O G 5)=some (U D6)/\w'.cell? (O fb (NQ+j3))=some (U s)) j8 ?_;have o9:=o8.o _ Z;have⟨wd,hwd⟩:=e9 wr.drew;rw[<-hwd]at Z o9;rw[<-hwd];clear hwd;refine oj ⟨?_⟩;refine lp 4 ?_;refine ll 5 ?_;refine lp 6 ?_;refine ll 7 ?_;refine Gp 8 λK hK=>?_;go_simp;go_at_call 106;refine IR (eW Ei D6 _ j0 j0) λMh Ht=>?_;have Z:C7 wr Mh:=Z.trans Ht;have Wm:=Z.size;go_wp2_with fail;refine KL (o8 _ Z) λo9=>?_
     refine lp 9 ?_;refine Gp 10 λK hK=>?_;go_simp;refine hK.out _ _ (λ_=>o8.o _ (Z.trans WU)) ?_;clear hK K
     try simp only[Act.put,sA,sB,sC]
     refine Gp 11 λK hK=>?_;refine ib G7 Tryz.M9 rfl Zf Fd _ _ j9 (B+1) (GI aS3 nS3 cS3) _ j9 (B9.st.ext (Z.trans WU)) _ 1 1 [(s,-Ei,D6)] j9 (GL.lit G7 _ _ _ 1 j9 _ j9 _ j9 j0) (k8 Kw.o) RG ?_;intro v13 TV ho hg r7;refine t8 ((hg.block B RG (λe=>by have:=(B9.st.lt B e.symm).1;omega)).trans ((Z.trans WU).blk B9.box)) ((K9.ext (Z.trans WU)).grown hg aeJ) (aeJ.near r7 (by have h1:=K9.size;simp;omega)) λYE OV TL=>?_;obtain⟨Y1,n13,c13,rfl,acA⟩:=ho.var;have I1:=I (B9.ach (Z.trans WU) hg ho);have⟨c0,c1,c2,c3,cf⟩:=GO YE.o;have⟨m0,m1,m2,m3,m4,m5,m6,mf⟩:=Ef (OV.blk QQ.o PZ)
     (try simp only at m0 m1 m2 m3 m4 m5 m6)
     have⟨fb',foff',hfe',adL⟩:=(OV.ints (i8 _) abw).ints.at Ln;obtain⟨rfl,rfl⟩:=aM hfe';clear hfe';rw[<-Rj.o]at adL;clear ho hg r7;refine KL (hJ c2 (hJ m4 (hJ m5 adL))) λo9=>?_;refine lp 12 ?_;refine OJ 13 ?_;refine cQ j8 ?_ _;rw[Qe.o]at I1;have⟨w14,NB⟩:=e9 (TV.setCell (O B 2) (GI Y1 n13 c13));have PS:=I (OV.set (j:=2) J1.o (GI Y1 n13 c13));rw[<-NB]at I1 PS;go_upto_region 18 with fail;rw[<-NB];clear NB c0 c1 c2 c3 cf m0 m1 m2 m3 m4 m5 m6 mf b0 b1 b2 b3 bf l0 l1 l2 l3 l4 l5 l6 lf o9 Z WJ adL;go_wp2_with fail
     refine QN ?_;exact⟨j3+1,_,I (k8 HJ3.o),by go_num,I1,PS,TL⟩
    have Qe:=I (show(L++F7 (Fj V L) ⟨1,rX,rY,rr,(Ei,D6),rp⟩ j3)=L++F7 (Fj V L) ⟨1,rX,rY,rr,(Ei,D6),rp⟩ (j3+1)by
     rw[lk,f7 (by show¬0<(rX[j3]?.getD (0,0)).1;rw[hxj];exact B8),C3])
    clear hs;go_wp2_with fail;refine QN ?_;exact⟨j3+1,_,I (k8 HJ3.o),by go_num,I (by rw[<-Qe.o];exact B9),K9,aeJ⟩
   have NG:j3=m:=k8 HJ3.o;have HE:=I (show L++F7 (Fj V L) ⟨1,rX,rY,rr,(Ei,D6),rp⟩ j3=ep V L ⟨1,rX,rY,rr,(Ei,D6),rp⟩by unfold ep;rw[HM.o,NG]);rw[HE.o]at B9;clear NG;have⟨N,hN⟩:=e9 (ep V L ⟨1,rX,rY,rr,(Ei,D6),rp⟩);refine t8 (zE (V:=V) (L:=L) (r:=⟨1,rX,rY,rr,(Ei,D6),rp⟩) (k:=k) (by rw[HVL.o];exact GQ) FN.o EW) (Yp (g1-1)) (show g1-1+1=g1 by have:=Zj.o;omega) λH7 QO Sj=>?_;rw[Sj.o,Sb.o]at QO;have HFE2:=I HFE.o;rw[<-hN]at B9 H7 QO HFE2;clear hN;have hnS3:nS3<=100000:=by have h1:=HNS3.o;have h2:=H7.2;have h3:=B9.st.QH.hlen;omega
   have S3:=I (Dp (p:=p) (a:=a) (cap:=cap) HVL.o j0 B9.st.QH j0 H7.1);generalize fj p V N=d at S3 QO;have⟨b0,b1,b2,b3,bf⟩:=GO B9.box;have e0:=B9.ext.o6 I9.o;have e1:=B9.ext.o6 Jt.o;go_wp2_with fail;refine i7 S3 λJw V2=>?_;have Md:=I (B9.grow V2);clear b0 b1 b2 b3 bf e0 e1;cases d
   ·have HR:b9 (J4 p V (g1-1) N (k+1)=o):=QO.symm;go_wp2_with fail;refine Mm ?_;exact⟨k+1,N,_,_,_,I (by have h1:=HK.o;have h2:=Zj.o;omega),Md,I (by have h1:=HFE2.o;have h2:=Zj.o;omega),I H7.1,I H7.2,I (by have h1:=HK.o;have h2:=Zj.o;have h3:JL (Fj V [])<=JL V-2:=eG [] (JL V-2);have h4:=HVL.o;omega),HR⟩
   have HR:b9 (o=⟨true,(rY.take q).map C5,N,k+1⟩):=QO;have⟨b0,b1,b2,b3,bf⟩:=GO Md.box;have X15:=I Md.ext;have⟨q0,q1,q2,q3,qf⟩:=KV.o Jw X15.o;obtain⟨kk,Qx⟩:∃x:Int,x=((k+1:Nat):Int):=⟨_,rfl⟩;rw[<-Qx]at b3;have LN:=I Qx;clear Qx;obtain⟨z0,z1,z2,z3,_⟩:=Fi.o Jw X15.o (bl true) (GI aP2 nP2 cP2) (GI aS3 nS3 cS3) (U kk);have HZ:=I (JU Jw X15.o (bl true) (GI aP2 nP2 cP2) (GI aS3 nS3 cS3) (U kk));have Ou:=I (YB Jw X15.o (bl true) (GI aP2 nP2 cP2) (GI aS3 nS3 cS3) (U kk));have OY:=I ((Md.pt.keep (λj hj=>Ou.o j (k8 ((Md.pt.lt j hj).1)))).mono (show w.heap.size<=B+1 by omega));have F4:=I ((Md.st.keep (λj hj=>Ou.o j (k8 ((Md.st.lt j hj).1)))).mono (show w.heap.size<=B+1 by omega));go_wp2;refine Fn (v:=.agg #[bl true,GI aP2 nP2 cP2,GI aS3 nS3 cS3,U kk]) (by simp[results,P5,go_sem,z0,z1,z2,z3]) rfl ⟨by rw[HR.o];exact⟨_,_,_,_,_,_,by rw[LN.o],OY,F4⟩,HZ⟩
  have Hp:=I (show o=Kg.no by
   rw[<-Sb.o];refine tA (λh=>hgo ?_);rw[<-Fs.o,<-HQ.o]at h;refine⟨h.1,?_⟩;have h2:=h.2;rw[<-Fv.o h.1]at h2;exact h2)
  have⟨q0,q1,q2,q3,qf⟩:=KV.o w7 X7.o;obtain⟨z0,z1,z2,z3,_⟩:=Fi.o w7 X7.o (bl false) d6 (d6) (U 0);have HZ:=I (JU w7 X7.o (bl false) d6 (d6) (U 0));cases ok
  ·have qq0:=@P5;exact FO
  have Jc:(rs != 1)=true:=by
   have:rs≠1:=λh=>hgo ⟨rfl,h⟩
   simp[this]
  have qq0:=@P5;exact FO
 have MM:p=1:=by
  have:=Gf.o;cases gb
  ·cases this
  simpa using this.symm
 have K2:ak p V=true:=by
  have:=Gf.o;rw[<-EB.o];cases gb
  ·cases this
  rfl
 have Zc:=I (show o=⟨true,[(bu p V,1)],[],0⟩by rw[HOO.o];unfold Iw;rw[f9 K2,f9 MM]);have JT:=I (iK (p:=p) (HI.ext Ly.ext));generalize bu p V=g at JT Zc;have c0:=Ly.ext.o6 I9.o;have c1:=Ly.ext.o6 Jt.o;clear MM K2;go_wp2_with fail;refine i7 JT λw3 B5=>?_;go_wp2_with fail;refine i7 (cL g _) λw4 DN=>?_;have Ey:C7 w2 (w4.alloc (QD #[U g,U 1] 56)):=(B5.trans DN).trans WU;have DT:=I (Ly.grow Ey);have Zd:=I (WV.agr w4 (B+1) g 1 (by have h1:=Ly.lt;have h2:=(B5.trans DN).size;omega));have EP:=I (DT.acT Zd);have⟨b0,b1,b2,b3,bf⟩:=GO DT.box;have⟨w6,GD⟩:=e9 ((w4.alloc (QD #[U g,U 1] 56)).setCell (O B 1) (EQ w4 1 1));rw[<-GD]at EP;clear Ey c0 c1;go_upto_region 4 with fail;rw[<-GD];generalize w4.heap.size=G at EP⊢;clear GD b0 b1 b2 b3 bf;have⟨b0,b1,b2,b3,bf⟩:=GO EP.box;have X6:=I EP.ext;have⟨q0,q1,q2,q3,qf⟩:=KV.o w6 X6.o;obtain⟨z0,z1,z2,z3,_⟩:=Fi.o w6 X6.o (bl true) (EQ G 1 1) d6 (U 0);have HZ:=I (JU w6 X6.o (bl true) (EQ G 1 1) d6 (U 0))
 have Ou:=I (YB w6 X6.o (bl true) (EQ G 1 1) d6 (U 0));have OY:=I ((EP.pt.keep (λj hj=>Ou.o j (k8 ((EP.pt.lt j hj).1)))).mono (show w.heap.size<=B+1 by omega));have F4:=I ((EP.st.keep (λj hj=>Ou.o j (k8 ((EP.st.lt j hj).1)))).mono (show w.heap.size<=B+1 by omega));go_wp2;refine Fn (v:=.agg #[bl true,EQ G 1 1,d6,U 0]) (by simp[results,P5,go_sem,z0,z1,z2,z3]) rfl ⟨by rw[Zc.o];exact⟨_,_,_,_,_,_,rfl,OY,F4⟩,HZ⟩
