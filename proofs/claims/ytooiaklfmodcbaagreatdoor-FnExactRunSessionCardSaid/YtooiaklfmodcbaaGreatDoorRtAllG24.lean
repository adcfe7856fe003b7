import Derived.Test.YtooiaklfmodcbaaGreatDoorRtAllG23
set_option linter.all false
set_option maxHeartbeats 6000000
set_option maxRecDepth 100000
namespace Go.Proofs.YtooiaklfmodcbaaGreatDoor
open Ending renaming returned->ar
open List renaming length->JL
open Obj renaming cells->QD
open Value renaming slice->GI,bool->bl,string->aE,pointer->aP
open Go.RowKit
variable{σ:Prop}
section
def VY{P Q:Prop}(k:p9 Q)(h:p9 Q->P:=by intro k;refine tk 27 ?_;refine tk 28 ?_;refine tk 29 ?_;refine tk 30 ?_;refine tk 31 ?_;refine tk 32 ?_;refine tk 33 ?_;refine tk 34 ?_;refine tk 35 ?_;refine tk 36 ?_;exact k.1):P:=h k
def Wj{P Q:Prop}(k:p9 Q)(h:p9 Q->P:=by intro k;refine tk 23 ?_;refine tk 24 ?_;refine tk 25 ?_;exact k.1):P:=h k
def Yl(h:σ:=by rw[HT.Ji];exact hlt):σ:=h
def ds(h:σ:=by rw[HVL.o];omega):σ:=h
def Tm(h:σ:=by have:=DT.o;rw[yf,F9.o]at this;exact this):σ:=h
def NJ{P Q:Prop}(q:Q)(h:Q->P:=by intro q;go_roundg (g2-1);exact q;have:=HJ.o;omega):P:=h q
def Z5{P Q:Prop}(q:Q)(h:Q->P:=by intro q;go_roundg (gk-1);exact q;have:=HI.o;omega):P:=h q
variable{l:l7}{k j b n DU base xn xc yn yc rn rc:Nat}{a xa ya ra:l9}{w W w':J}{piv:Int}{r:G9}
theorem xe{α β:Type}(f:α->β){l:List α}{d:α}(h:k<JL l):(l.take k).map f++[f (l[k]?.getD d)]=(l.take (k+1)).map f:=by
 rw[xl h,sr,Id h];rfl
theorem dm{β:Type}(f:Nat->β)(k:Nat):(List.range k).map f++[f k]=(List.range (k+1)).map f:=by rw[rN];simp
theorem yu(m i:Nat):sH m i=(List.range m).map λk=>if k=i then((1:Int),(1:Int)) else(0,1):=rfl
section
variable{w:J}{a:l9}{na ca:Nat}{b:l9}{nb cb:Nat}{c:l9}{nc cc:Nat}{A:l8}{B:o3}{C:l7}
def Rh(h:σ:=by
 have⟨xb,Nu,RE,B8⟩:=(Hy.ext A0).at F0;subst RE;have⟨x,hx⟩:=e9 ((A[k]?.getD [])[j]?.getD 0);rw[<-hx]at B8;have Sg:=I (show j<(A[k]?.getD []).length by rw[IL.o k hlt];exact F0);have QY:-5000<=x/\x<=5000:=by
  rw[hx,Id Sg.o];exact(JR k hlt).2 _ (eN _)
 obtain⟨hxb0,hxb1⟩:=QY;have Ol:sd*x=x∨sd*x=-x∨sd*x=0:=by
  have:sd=-1∨sd=0∨sd=1:=by omega
  rcases this with h1|h1|h1<;>subst h1<;>omega
 have Tn:-5000<=sd*x/\sd*x<=5000:=by rcases Ol with h1|h1|h1<;>rw[h1]<;>omega
 have⟨z,hz⟩:=e9 (sd*x);have V4:wrap64 (sd*x)=z:=by rw[hz];unfold wrap64;omega
 have F9:=I (show((A[k]?.getD []).take j).map (λx=>(sd*x,(1:Int)))++[(z,1)]=((A[k]?.getD []).take (j+1)).map (λx=>(sd*x,(1:Int)))by
  rw[hz,hx];exact xe (λx=>(sd*x,(1:Int))) Sg)
 have EW:=I (show(((A[k]?.getD []).take j).map (λx=>(sd*x,(1:Int)))).length=j by rw[dc,k6];have:=Sg.o;omega);clear hx hz Ol Tn;go_wp2_with fail;rw[V4];clear V4;refine(qq0 z _).mono ?_;rintro e w3 ⟨rfl,hx⟩;have X3:=I (A0.trans hx);have B9:=I (aa.ext hx);have J8:=X3.size;clear hx
 go_wp2_with (first
  | (at_builtin;refine Ot z 1 B9 X3 N5 λa5 n5 p5 w5 It X5 DT=>?_))
 refine NJ ?_;exact⟨j+1,a5,n5,p5,I (k8 HJ.o),by go_num,rfl,I cd,X5⟩
 ):σ:=h
def Fu(h:σ:=by
 have bf:=dZ N4.box;have hl8:=In N4.box;have IG:=I (show((List.range k).map λi=>((yn+i:Nat):Int)).length=k by simp)
 go_wp2_with (first
  | (at_builtin;refine bK rfl _ _ rfl w1.heap.size vb _ rfl (N4.b.ext WU) _ 1 _ [(yn:Int)+(k:Int)] rfl (K4 j7) (by rw[IG.o];omega) m9 ?_;intro v9 w9 ho hg r7;obtain⟨a9,n9,q9,rfl,N'⟩:=ho.var;have Gl:=I ho;have Rn:=I hg;have EX:=N4.OQ WU hg;have Y0:=aI EX;have SM:=dZ EX;have Nk:C7 w1 w9:=aj (C7.trans Ma.o WU) hg (λj hj=>(N4.b.lt j hj).1);clear ho hg r7 EX))
 have FW:=I (N4.pushB WU Rn.o Gl);have Lw:=I (Nk.setCell (p:=(O w1.heap.size 1)) (i8 _) (GI a9 n9 q9));refine kf ?_;exact⟨k+1,_,_,_,I (k8 HK.o),by go_num,I (by
  have h1:=FW.o;rw[JQ.o,dm]at h1;have h2:((List.range k).map λi=>((yn+i:Nat):Int))++[(yn:Int)+(k:Int)]=(List.range (k+1)).map λi=>((yn+i:Nat):Int):=by
   rw[<-dm];simp
  rw[h2]at h1;exact h1),Lw⟩
 ):σ:=h
def YS(h:σ:=by
 have DV:nb=k:=by have:=HK.o;omega
 subst DV;have Ri:=I (show Fp y9 w1.heap.size va vb vs (cz A B nc)by have:=T.own;unfold cz;rw[Hc.o];exact this);have t0:=aw T.box;have t1:=aI T.box;have t2:=aJ T.box;obtain⟨a7,n7,c7,rfl,My⟩:=T.a.var;obtain⟨a8,n8,c8,rfl,M7⟩:=T.b.var;have xw:=X1.trans HX.o;have r0:=aw (xw.blk EB);have r1:=aI (xw.blk EB);have r2:=aJ (xw.blk EB);have rf:=dZ (xw.blk EB);have XW:=I xw;clear xw;go_wp2;refine Fn (v:=.agg #[GI a7 n7 c7,GI a8 n8 c8,U nc]) (by simp[results,qq0,go_sem,r0,r1,r2,rf]) rfl ⟨⟨_,_,vs,rfl,?_⟩,(A8.trans XW).IM (b7 _) _ _ _⟩;exact(Ri.FJ λk hk=>dS _ _ _ _ _ _ j0).mono j0
 ):σ:=h
def WS(h:σ:=by
 have:sd=-1∨sd=0∨sd=1:=by omega
 rcases this with h1|h1|h1<;>subst h1<;>omega
 ):σ:=h
def Nt(h:σ:=by
 rcases Wk with⟨GP,rfl⟩|⟨GP,rfl⟩
 all_goals
  go_wp2;go_meet;exact⟨rfl,rfl⟩
 ):σ:=h
def sc(h:σ:=by
 rw[hd];subst Kr;clear LB Tp Ng hd;go_wp2;go_meet;exact⟨rfl,rfl⟩
 ):σ:=h
def PY(h:σ:=by
 exact⟨0,_,_,_,I j0,rfl,rfl,I (by simpa using Fh.o),A0⟩
 ):σ:=h
theorem te(h:Kh w a na ca b nb cb c nc cc A B C)(ok:Ej A B C=true):
 Calls Tryz.prog 269 #[Ig a na ca b nb cb c nc cc] w λe w'=>(∃va vb vs,e=ar (.agg #[va,vb,U nc])/\Fp w' w va vb vs (cz A B nc))/\C7 w w':=by
 have⟨r1,r2,r3,r4,r5,r6⟩:=dI h ok;subst r3;have B8:=(C7.alloc w (bT a nb ca b nb cb c nc cc)).trans (C7.alloc _ (QD #[d6,d6,U 0] 151));have⟨W,hW⟩:=e9 ((w.alloc (bT a nb ca b nb cb c nc cc)).alloc (QD #[d6,d6,U 0] 151));rw[<-hW]at B8;have A8:=I B8;have H:=I (h.ext B8);have HV:=I (fB H);rw[ok]at HV;refine t8 (show W.heap[w.heap.size+1]?=some (QD #[d6,d6,U 0] 151 (0,0))by rw[hW];exact IO j7) (show W.heap[w.heap.size]?=some (QD #[GI a nb ca,GI b nb cb,GI c nc cc] 105 (0,0))by rw[hW,aZ _ _ _ j7];exact IO rfl) (show W.heap.size=w.heap.size+1+1 by rw[hW];simp) λEB G IH=>?_;have⟨T',ON⟩:=h.a.aq9;have⟨E6,Ew⟩:=h.b.aq9;have⟨Eu,GU⟩:=h.c.aq9;refine ns h.a.hlen h.b.hlen r4 r5 r6 λHc FN IL JR Po=>?_;clear h B8 ok r4 r5 r6;go_in
 go_upto_region 1 with fail;rw[<-hW];clear hW;have⟨p0,p1,p2⟩:=gl G.o;go_wp2_with fail;refine i7 HV λw1 X1=>?_;have H1:=I (H.ext X1);clear p0 p1 p2;refine t8 (aw (X1.blk G)) (aI (X1.blk G)) (aJ (X1.blk G)) λP0 P1 P2=>?_;have p2:=P2.o;have IK:w.heap.size+1+1<=w1.heap.size:=by have:=X1.size;have:=IH.o;omega
 have⟨E,hE⟩:=e9 (w1.alloc (QD #[d6,d6,U nc] 151));have XE:=I (show C7 w1 E by rw[hE];exact WU)
 have R7:=I (show JN E w1 w1 d6 (d6) (nc:Int) [] [] []by
  rw[hE];exact⟨IO rfl,i8 _,WD _ _ _ 1,ev.nil _ _,C1⟩)
 go_upto_region 4 with fail;rw[<-hE];clear hE p2;have p0:=XE.o6 P0.o;go_wp2
 go_loopg [23] nb (λgk ii wr=>∃(k:Nat) (va vb:arQ) (vs:List arQ),b9 (gk+k=nb)/\ii=U k/\b9 (JN wr w1 w1 va vb (nc:Int) vs ((List.range k).map (dF A B)) ((List.range k).map λi=>((nc+i:Nat):Int)))/\b9 (C7 w1 wr))
 ·exact⟨0,_,_,_,I j0,rfl,R7,XE⟩
 rename Nat=>g1;rename J=>y9;obtain⟨k,va,vb,vs,HK,rfl,T,HX⟩:=hrel;clear p0;have hsr:=HX.size;by_cases hlt:k<nb
 ·have⟨zb,ED,ya,yn,yc,JA,F8,z8⟩:=(H1.ext HX).a.at hlt;subst JA;obtain rfl:yn=nc:=by rw[<-z8.hlen];exact IL.o k hlt
  have⟨EN,KG⟩:=z8.aq9;have⟨eb,DI,IU,Fg⟩:=H1.b.at hlt;subst IU;have⟨bk,NK⟩:=e9 (B[k]?.getD 0);rw[<-NK]at Fg;have PX:=I Fg;have HBK:=I NK;have FD:-5000<=bk/\bk<=5000:=by
   rw[NK,Id (by rw[FN.o];exact hlt)];exact Po.o _ (eN _)
  obtain⟨hbb0,hbb1⟩:=FD;have⟨sd,Q5⟩:=e9 (GS bk);have HSD:=I Q5;have Wk:(bk<0/\sd=-1)∨(¬bk<0/\sd=1):=by rw[Q5];exact ia bk
  have Jc:-1<=sd/\sd<=1:=j0;obtain⟨hsb0,Wl⟩:=Jc;have p1:=HX.o6 P1.o;have Kc:=HX.o6 PX.o;have Hy:=I z8;clear z8 NK Q5 Fg;go_upto_if 33 with fail
  go_cut [6] (λs6 wx=>s6=U sd/\y9=wx)
  case first =>
   exact Nt
  obtain⟨rfl,rfl⟩:=hcut;clear Wk;have HO1:=I (WV.made y9 y9 (i8 _));go_wp2
  go_loopg [7,37] yn (λgk oo ii wr=>∃(j:Nat) (a1:l9) (n1 q1:Nat),b9 (gk+j=yn)/\ii=U j/\oo=GI a1 n1 q1/\b9 (WV wr y9 (GI a1 n1 q1) (((A[k]?.getD []).take j).map λx=>(sd*x,(1:Int))))/\b9 (C7 y9 wr))
  ·exact O0
  rename Nat=>g2;rename J=>wr2;obtain⟨j,a1,n1,q1,HJ,rfl,rfl,aa,A0⟩:=hrel;clear p1 Kc F8;by_cases F0:j<yn
  ·have qq0:=@cO;exact Rh
  have Ii:yn=j:=k8 HJ.o;have Fh:=I (show WV wr2 y9 (GI a1 n1 q1) ((A[k]?.getD []).map (λx=>(sd*x,(1:Int))))by
   have h1:=aa.o;rw[bR (by rw[IL.o k hlt];omega)]at h1;exact h1)
  have Lz:=I (show((A[k]?.getD []).map (λx=>(sd*x,(1:Int)))).length=yn by rw[dc];exact IL.o k hlt);have p0:=(HX.trans A0).o6 P0.o;have S4:=I Ii;clear Ii;go_wp2
  go_loopg [7,52] nb (λgk oo ii wr=>∃(i:Nat) (a1:l9) (n1 q1:Nat),b9 (gk+i=nb)/\ii=U i/\oo=GI a1 n1 q1/\b9 (WV wr y9 (GI a1 n1 q1) ((A[k]?.getD []).map (λx=>(sd*x,(1:Int)))++(List.range i).map λi=>if i=k then((1:Int),(1:Int)) else(0,1)))/\b9 (C7 y9 wr))
  ·exact PY
  obtain⟨i,a3,n3,q3,HI,rfl,rfl,B9,B7⟩:=hrel;clear p0;by_cases Jr:i<nb
  ·have EW:=I (show((A[k]?.getD []).map (λx=>(sd*x,(1:Int)))++(List.range i).map λi=>if i=k then((1:Int),(1:Int)) else(0,1)).length=yn+i by rw[SW,Lz.o];simp);obtain⟨un,LB⟩:∃u:Int,u=if i=k then 1 else 0:=⟨_,rfl⟩
   have F9:=I (show(List.range i).map (λi=>if i=k then((1:Int),(1:Int)) else(0,1))++[(un,1)]=(List.range (i+1)).map λi=>if i=k then((1:Int),(1:Int)) else(0,1)by
    rw[<-dm,LB];congr 2;split<;>rfl)
   have Ng:((i:Int) == (k:Int))=decide (i=k):=by by_cases h:i=k<;>simp[h]<;>omega
   go_upto_if 57 with fail
   go_cut [11] (λs11 wx=>s11=U un/\wr=wx)
   case first =>
    by_cases Tp:i=k
    ·have Kr:un=1:=by rw[LB,f9 Tp]
     have hd:decide (i=k)=true:=UV Tp;exact sc
    have Kr:un=0:=by rw[LB,f7 Tp]
    have hd:decide (i=k)=false:=Ok Tp;exact sc
   obtain⟨rfl,rfl⟩:=hcut;clear LB Ng;go_wp2_with fail;refine i7 (cO un _) λw3 hx=>?_;have X3:=I (B7.trans hx);have EI:=I (B9.ext hx);have J8:=X3.size
   go_wp2_with (first
    | (at_builtin;refine Ot un 1 EI X3 N5 λa5 n5 p5 w5 It X5 DT=>?_))
   refine Z5 ?_;exact⟨i+1,a5,n5,p5,I (k8 HI.o),by go_num,rfl,I Tm,X5⟩
  have D7:i=nb:=k8 HI.o;subst D7;have⟨z2,J6⟩:=e9 (sd*bk);have Ol:sd*bk=bk∨sd*bk=-bk∨sd*bk=0:=by
   exact WS
  have YL:IntKind.i64.wrap (sd*bk)=z2:=by
   rw[mn,J6];rcases Ol with h1|h1|h1<;>rw[h1]<;>omega
  have JQ:=I (show((A[k]?.getD []).map (λx=>(sd*x,(1:Int)))++(List.range i).map λi=>if i=k then((1:Int),(1:Int)) else(0,1))++[(z2,1)]=dF A B k by
   unfold dF;rw[<-HBK.o,<-HSD.o,J6,Hc.o,yu])
  have EW:=I (show((A[k]?.getD []).map (λx=>(sd*x,(1:Int)))++(List.range i).map λi=>if i=k then((1:Int),(1:Int)) else(0,1)).length=yn+i by rw[SW,Lz.o];simp);have HVL:=I (show JL vs=k by rw[T.rows.len];simp);have t0:=aw T.box;have p1:=HX.o6 P1.o;have Kc:=HX.o6 PX.o;have KN:=ST k;have Gj:=Rd k i;clear J6 Ol;go_upto_region 24 with fail;have JH:=C7.drew wr;have Z:C7 y9 wr.drew:=B7.trans JH;have o8:=I λw' (h:C7 y9 w')=>TX (h.o6 t0) (TX (h.o6 p1) (TX (h.o6 Kc) (HX.trans h)));refine cD (M:=[16]) (S:=λw'=>w'.cell? (O w1 0)=some va/\w'.cell? (O w 1)=some (GI (some (O eb DI)) i cb)/\w'.cell? (O eb (DI+k))=some (U bk)/\C7 w1 w') j8 ?_;have o9:=o8.o _ Z;refine oj ⟨?_⟩;refine lp 4 ?_;refine ll 5 ?_;refine lp 6 ?_;refine lp 7 ?_;refine ll 8 ?_;refine lp 9 ?_;refine Gp 10 λK hK=>?_
  go_simp;go_at_call 131;refine IR (cO _ _) λw5 Ey=>?_;have JH:C7 wr w5:=JH.trans Ey;have Z:C7 y9 w5:=Z.trans Ey;have KJ:=Z.size;go_wp2_with fail;refine KL (o8 _ Z) λo9=>?_
  refine Gp 11 λK hK=>?_;go_simp;refine hK.out _ _ (λ_=>o8.o _ (Z.trans WU)) ?_;clear hK K
  try simp only[Act.put,sA,sB,sC]
  refine Gp 12 λK hK=>?_;refine dq _ _ j9 y9 (GI a3 n3 q3) _ j9 ((B9.ext JH).ext WU) _ 1 _ [(z2,1)] j9 (C2 rfl) N5 m9 ?_;intro v6 w6 ho hg r7;obtain⟨a6,n6,q6,rfl,Ia⟩:=ho.var;have EP:=I ho;have JV:C7 y9 w6:=aj (Z.trans WU) hg (λj hj=>(B9.lt j hj).1);have hs6:=JV.size;clear ho hg r7;refine KL (o8 _ JV) λo9=>?_;refine Gp 13 λK hK=>?_;go_simp;refine hK.out _ _ (λ_=>o8.o _ (JV.trans WU)) ?_;clear hK K
  try simp only[Act.put,sA,sB,sC]
  refine Gp 14 λK hK=>?_;refine fT _ _ j9 w1 va vs j9 ((T.a.ext JV).ext WU) _ _ 1 j9 N3 rfl ds m9 ?_;intro v7 w7 ho hg r7;obtain⟨a7,n7,q7,rfl,My⟩:=ho.var;have II:=I ho;have Si:=I hg;have EX:=T.OR (JV.trans WU) hg;have Re:=aw EX;have YX:=dZ EX;have Nl:C7 w1 w7:=aj ((HX.trans JV).trans WU) hg (λj hj=>(T.a.lt j hj).1);clear ho hg r7 EX;refine KL (hJ Re (hJ (Nl.o6 P1) (hJ (Nl.o6 PX) Nl))) λo9=>?_;refine lp 15 ?_;refine OJ 16 ?_;refine cQ j8 ?_ _;have N4:=I (T.Lf (JV.trans WU) (EP.ext WU) hsr Si.o II);have Ma:=I (Nl.setCell (p:=(O w1 0)) (i8 _) (GI a7 n7 q7));have⟨W8,NO⟩:=e9 (w7.setCell (O w1 0) (GI a7 n7 q7));rw[<-NO]at N4 Ma;go_upto_region 25 with fail;rw[<-NO];clear NO Re YX o9;have b1:=aI N4.box;have b2:=aJ N4.box;exact Fu
 have qq0:=@Tryz.results269;exact YS
end
theorem fY(n:Nat)(s:Tb×Nat)(k:Nat):bP n s (k+1)=(bP n s k).bind λs'=>ju n s' k:=rfl
section
variable{n:Nat}{s:Tb×Nat}{k:Nat}{tt:Tb}{lf:Nat}
theorem qV(h:bP n s k=some (tt,lf))(hb:tt.basis[k]?.getD 0<n):bP n s (k+1)=some (tt,lf):=by
 rw[fY,h,mr];unfold ju;rw[f9 hb]
theorem qU(h:bP n s k=some (tt,lf))(hb:¬tt.basis[k]?.getD 0<n)(E:((tt.row k).take n).all (λc=>!IS c)=true):bP n s (k+1)=some (tt,lf):=by
 rw[fY,h,mr];unfold ju;rw[f7 hb];simp only;rw[eD E,f9 j0]
theorem Cc(h:bP n s k=some (tt,lf))(hb:¬tt.basis[k]?.getD 0<n){j:Nat}(E:j<n)(hl:j<JL (tt.row k))(H:((tt.row k).take j).all (λc=>!IS c)=true)(G:IS ((tt.row k)[j]?.getD (0,0))=true)(hlf:lf<=1000):
 bP n s (k+1)=(Hs tt (1000-lf) k j).map λx=>(x.1,1000-x.2):=by
 have hi:dg IS ((tt.row k).take n)=j:=by
  refine fJ (d:=(0,0)) m9 (by rw[Y5,ub j0];exact H) ?_;rw[bB E];exact G
 rw[fY,h,mr];unfold ju;rw[f7 hb];simp only;rw[hi,f7 j0];unfold Hs;cases lf with
 | zero=>rw[f9 j0];rfl
 | succ f =>
   rw[f7 j0];simp only;cases bW tt k j with
   | none=>rfl
   | some t'=>simp only[yl];congr 2;omega
theorem qT(h:bP n s k=some (tt,lf))(hb:¬tt.basis[k]?.getD 0<n){j:Nat}(H:j<n)(G:j<JL (tt.row k))(Q:((tt.row k).take j).all (λc=>!IS c)=true)(K:IS ((tt.row k)[j]?.getD (0,0))=true)(E:lf<=1000):
 ((bP n s (k+1)).map λx=>(x.1,1000-x.2))=Hs tt (1000-lf) k j:=by
 rw[Cc h hb H G Q K E];unfold Hs;split
 ·rfl
 next hn =>
 cases bW tt k j with
 | none=>rfl
 | some t'=>simp only[yl];congr 2;omega
theorem nL(h:bP n s k=none):∀{m:Nat},k<=m->bP n s m=none:=by
 intro m hm;obtain⟨d,rfl⟩:∃d,m=k+d:=⟨m-k,by omega⟩;clear hm
 induction d with
 | zero=>exact h
 | succ d ih=>rw[show k+(d+1)=(k+d)+1 by omega,fY,ih];rfl
end
theorem Rx.more{S:Nat}{a b c:J}{o:Option (Tb×Nat)}(hx:C7 a b)(h:Rx S b c o):Rx S a c o:=⟨(WP.of hx).trans h.1,h.2⟩
theorem ux{p:o4}(G:j<JL l)(E:l[j]?.getD (0,0)=p)(K:(l.take j).all (λc=>!IS c)=true)(H:IS p=false):(l.take (j+1)).all (λc=>!IS c)=true:=by
 rw[es G,tn,K,E];simp[H]
theorem ZQ(p q:Int):IS (p,q)=!((p == 0)&&(q == 1)):=by unfold IS;rw[yy];simp
theorem kp(E:l7)(m:Nat):bQ E m=-1∨∃j:Nat,bQ E m=j/\j<m:=by
 unfold bQ;split
 ·exact xt rfl
 unfold dg;split
 ·next i hi =>
  right;refine⟨i,rfl,?_⟩;have:=(Tp.1 hi).1;rw[k6]at this;omega
 exact xt rfl
theorem uB{m:Nat}{T0:Nat->Nat->Rat}{cost:l7}:∀{f:Nat} {t:Tb} {p:Ph},EY n m T0 t->bD cost f t=some p->p.DU=-1∨∃j:Nat,p.DU=j/\j<n:=by
 intro f
 induction f with
 | zero =>
   intro t p E h;unfold bD at h;cases hc:dC t cost with
   | none=>rw[hc]at h;cases h
   | some cs =>
     rw[hc]at h;simp only at h;split at h
     ·cases h;exact xt rfl
     split at h
     ·cases h;rw[E.A6];exact kp cs n
     cases h
 | succ f ih =>
   intro t p E h;unfold bD at h;cases hc:dC t cost with
   | none=>rw[hc]at h;cases h
   | some cs =>
     rw[hc]at h;simp only at h;split at h
     ·cases h;exact xt rfl
     split at h
     ·cases h;rw[E.A6];exact kp cs n
     cases G:bW t (dL t (bQ cs t.A6)) (bQ cs t.A6)with
     | none=>rw[G]at h;cases h
     | some t'=>rw[G]at h;exact ih (gS E G) h
theorem qv{t:Tb}(h:t.basis[k]?.getD 0<n):F6 t n DU (k+1)=(F6 t n DU k).set (t.basis[k]?.getD 0).toNat (C5 (t.at k DU)):=by simp only[F6];rw[f9 h]
theorem tF{t:Tb}(h:¬t.basis[k]?.getD 0<n):F6 t n DU (k+1)=F6 t n DU k:=by simp only[F6];rw[f7 h]
theorem kC(t:Tb)(n DU:Nat):∀k,JL (F6 t n DU k)=n
 | 0=>by simp[F6]
 | k+1=>by
   by_cases h:t.basis[k]?.getD 0<n
   ·rw[qv h,k7];exact kC t n DU k
   rw[tF h];exact kC t n DU k
theorem Da(t:Tb)(n DU:Nat):F6 t n DU 0=(List.replicate n ((0:Int),(1:Int))).set DU (1,1):=by
 simp only[F6];apply TC
 ·simp
 intro i h1 h2;rw[Tu];simp only[lx,N4,List.getElem_replicate];by_cases h:i=DU
 ·rw[f9 h,f9 h.symm]
 rw[f7 h,f7 (λe=>h e.symm)]
theorem i6.take{cap:Nat}(h:i6 w a n cap l)(E:k<=n):i6 w a k cap (l.take k) :=
 ⟨by rw[k6,h.hlen];omega,fy E h.r8,h.r9,λj hj=>by
  have⟨b,off,e,hc⟩:=h.cell j j0;refine⟨b,off,e,λi hi=>?_⟩;rw[bB hi]
  exact hc i j0⟩
structure K6(w W:J)(g:Nat)(s:Int)(vx vy vr:arQ)(p q piv:Int):Prop where
 ext:C7 w W
 hg:w.heap.size<=g
 box:W.heap[g]?=some (QD #[U s,vx,vy,vr,U p,U q,U piv] 109 (0,0))
abbrev YG:Obj:=QD #[.int .i64 0,GI none 0 0,GI none 0 0,GI none 0 0,.int .i64 0,.int .i64 0,.int .i64 0] 109
theorem K6.new(h:C7 w W):K6 w (W.alloc YG) W 0 d6 (d6) d6 0 0 0:=⟨h.trans WU,h.size,IO rfl⟩
theorem K6.grow{W':J}{g:Nat}{s:Int}{vx vy vr:arQ}{p q:Int}(h:K6 w W g s vx vy vr p q piv)(hx:C7 W W'):K6 w W' g s vx vy vr p q piv:=⟨h.ext.trans hx,h.hg,(hx.block _ (In h.box)).trans h.box⟩
theorem K6.put{g:Nat}{s:Int}{vx vy vr:arQ}{p q:Int}(h:K6 w W g s vx vy vr p q piv)(s':Int)(H G K:arQ)(p' q' E:Int):
 K6 w (((((((W.setCell (O g 0) (U s')).setCell (O g 1) H).setCell (O g 2) G).setCell (O g 3) K).setCell (O g 4) (U p')).setCell (O g 5) (U q')).setCell (O g 6) (U E)) g s' H G K p' q' E:=by
 refine⟨((((((h.ext.setCell (p:=(O g 0)) h.hg _).setCell (p:=(O g 1)) h.hg _).setCell (p:=(O g 2)) h.hg _).setCell (p:=(O g 3)) h.hg _).setCell (p:=(O g 4)) h.hg _).setCell (p:=(O g 5)) h.hg _).setCell (p:=(O g 6)) h.hg _,h.hg,?_⟩;have b0:=cE W g 0 _ _ (U s') h.box;have b1:=cE _ g 1 _ _ H b0;have b2:=cE _ g 2 _ _ G b1;have b3:=cE _ g 3 _ _ K b2;have Z:=cE _ g 4 _ _ (U p') b3;have Q:=cE _ g 5 _ _ (U q') Z;have b6:=cE _ g 6 _ _ (U E) Q;rw[b6];rfl
section
variable{w W:J}{g:Nat}{s:Int}{vx vy vr:arQ}{p q piv:Int}
theorem K6.c0(h:K6 w W g s vx vy vr p q piv):W.cell? (O g 0)=some (U s):=by rw[aR W g _ _ _ _ h.box];rfl
theorem K6.c1(h:K6 w W g s vx vy vr p q piv):W.cell? (O g 1)=some vx:=by rw[aR W g _ _ _ _ h.box];rfl
theorem K6.c2(h:K6 w W g s vx vy vr p q piv):W.cell? (O g 2)=some vy:=by rw[aR W g _ _ _ _ h.box];rfl
theorem K6.c3(h:K6 w W g s vx vy vr p q piv):W.cell? (O g 3)=some vr:=by rw[aR W g _ _ _ _ h.box];rfl
theorem K6.c4(h:K6 w W g s vx vy vr p q piv):W.cell? (O g 4)=some (U p):=by rw[aR W g _ _ _ _ h.box];rfl
theorem K6.c5(h:K6 w W g s vx vy vr p q piv):W.cell? (O g 5)=some (U q):=by rw[aR W g _ _ _ _ h.box];rfl
theorem K6.c6(h:K6 w W g s vx vy vr p q piv):W.cell? (O g 6)=some (U piv):=by rw[aR W g _ _ _ _ h.box];rfl
theorem K6.free(h:K6 w W g s vx vy vr p q piv)(k:Nat):W.frozen? (O g k)=false:=mo W g k _ _ h.box
end
theorem K6.DS(h:C7 (w.alloc YG).drew w'):K6 w w' w 0 d6 (d6) d6 0 0 0 :=
 K6.grow ⟨WU.trans cn,i8 _,vC w _⟩ h
theorem r'.mod{S:Nat}{v:arQ}{l:o3}(h:r' w b v l)(hm:WP S w w'){c:Array arQ}{z:Nat×Nat}(hb:w.heap[S]?=some (QD c 224 z)):r' w' b v l :=
 h.keep λk hk=>hm.block k (h.lt k hk).2 λe=>(aq h hb Fd) RA
theorem WV.Jx{cap:Nat}(h:WV w b (GI a n cap) l)(hb:base<=b):On base w (λW=>i6 W a n cap l) :=
 λw2 G=>(h.keep λk E=>G k (fy hb (h.lt k E).1) (h.lt k E).2).rats
theorem WV.Py{cap:Nat}(h:WV w b (GI a n cap) l)(hb:base<=b)(G:k<=n):On base w (λW=>i6 W a k cap (l.take k)) :=
 λE H=>(h.Jx hb E H).take G
theorem i6.Ny(w:J):i6 w none 0 0 []:=⟨rfl,i8 _,by omega,λk E=>absurd E j0⟩
structure Jl(w:J)(base:Nat)(xa:l9)(xn xc:Nat)(ya:l9)(yn yc:Nat)(ra:l9)(rn rc:Nat)(r:G9):Prop where
 x:On base w λW=>i6 W xa xn xc r.X
 y:On base w λW=>i6 W ya yn yc r.Y
 IJ:On base w λW=>i6 W ra rn rc r.IJ
theorem Jl.here(h:Jl w base xa xn xc ya yn yc ra rn rc r):R1 w xa xn xc ya yn yc ra rn rc r:=⟨h.x.here,h.y.here,h.IJ.here⟩
theorem Jl.ext(h:Jl w base xa xn xc ya yn yc ra rn rc r)(hx:C7 w w'):Jl w' base xa xn xc ya yn yc ra rn rc r:=⟨h.x.ext hx,h.y.ext hx,h.IJ.ext hx⟩
theorem Jl.keep(h:Jl w base xa xn xc ya yn yc ra rn rc r)(hs:w.heap.size<=w'.heap.size)(E:∀k,base<=k->k<w.heap.size->w'.heap[k]?=w.heap[k]?):Jl w' base xa xn xc ya yn yc ra rn rc r :=
 ⟨h.x.keep hs E,h.y.keep hs E,h.IJ.keep hs E⟩
theorem Jl.mono{base':Nat}(h:Jl w base xa xn xc ya yn yc ra rn rc r)(hb:base'<=base):Jl w base' xa xn xc ya yn yc ra rn rc r:=⟨h.x.mono hb,h.y.mono hb,h.IJ.mono hb⟩
theorem Jl.zero(w:J)(base:Nat)(s:Int):Jl w base none 0 0 none 0 0 none 0 0 (bh s):=⟨λw _=>i6.Ny w,λw _=>i6.Ny w,λw _=>i6.Ny w⟩
end
section
variable{Y D:l7}{j n:Nat}{w:J}{a:l9}
section
variable{w:J}{a:l9}{na ca:Nat}{b:l9}{nb cb:Nat}{c:l9}{nc cc:Nat}{A:l8}{B:o3}{C:l7}
theorem oq(h:Kh w a na ca b nb cb c nc cc A B C)(ok:Ej A B C=true){xa:l9}{xn Nv:Nat}{X:l7}(K:i6 w xa xn Nv X):
 f8 255 #[Ig a na ca b nb cb c nc cc,GI xa xn Nv] w (bl (eO A B (JL C) X)):=by
 have⟨r1,r2,r3,r4,r5,r6⟩:=dI h ok;subst r3;have Z:=C7.alloc w (bT a nb ca b nb cb c nc cc);refine Op Z (h.ext Z) (K.ext Z) (ai w (bT a nb ca b nb cb c nc cc) _ rfl) λHa H Ir E=>?_;have⟨Eu,GU⟩:=h.c.aq9;have⟨E6,Ew⟩:=h.b.aq9;have⟨A',C4⟩:=K.aq9;have Q:=I (eV H);rw[ok]at Q;have HE:=I (show eO A B (JL C) X=(decide (xn=nc)&&(J3 X&&em A X B))by unfold eO;rw[h.c.hlen,K.hlen]);have JR:=I r5;clear h K Z ok r4 r5 r6;by_cases hn:xn=nc
 ·subst hn;have hee:((xn:Int) == (xn:Int))=true:=by simp
  have⟨pv,KK⟩:=e9 (J3 X);have⟨gv,Jd⟩:=e9 (em A X B);refine t8 (show eO A B (JL C) X=(pv&&gv)by rw[HE.o,<-KK,<-Jd];simp) (λ(W:J) (hx:C7 (w.alloc (bT a nb ca b nb cb c xn cc)) W)=>lu (Ir.ext hx)) (λ(W:J) (hx:C7 (w.alloc (bT a nb ca b nb cb c xn cc)) W)=>uN (b:=b) (nb:=nb) (cb:=cb) (c:=c) (nc:=xn) (cc:=cc) (H.ext hx).a (Ir.ext hx) (H.ext hx).b (i8 _) JR) λGB HN HG=>?_;simp only[<-KK]at HN;simp only[<-Jd]at HG;clear KK Jd;cases pv
  ·unfold f8;go_in
   go_wp2_with fail;refine i7 Q λw1 X1=>?_;have G:=aJ (X1.blk E);go_wp2_with fail;refine IR (HN _ X1) λw2 hx=>?_;go_wp2;go_ret;exact⟨ag GB.symm,Ha.trans (X1.trans hx)⟩
  unfold f8;go_in
  go_wp2_with fail;refine i7 Q λw1 hx=>?_;have X1:=I hx;have G:=aJ (X1.blk E);go_wp2_with fail;refine i7 (HN _ X1) λw2 hx=>?_;have X2:=I (X1.trans hx);clear G;have⟨p0,p1,G⟩:=gl (X2.blk E);go_wp2_with fail;refine IR (HG _ X2) λw3 hx=>?_;go_wp2;go_ret;exact⟨ag GB.symm,Ha.trans (X2.trans hx)⟩
 have hee:((xn:Int) == (nc:Int))=false:=m9;have HF:=I (show eO A B (JL C) X=false by rw[HE.o,Ok hn];rfl);unfold f8;go_in
 go_wp2_with fail;refine i7 Q λw1 hx=>?_;have X1:=I hx;have G:=aJ (X1.blk E);have qq0:=@ag;exact gd
theorem yF{A:l8}{Y D:l7}{j:Nat}(h:none=DZ (aG (El A j)) Y):bL A Y D j=false:=by unfold bL;rw[kT,<-h]
theorem yG{A:l8}{Y D:l7}{j:Nat}{v d:o4}(h:some v=DZ (aG (El A j)) Y)(E:D[j]?.getD (0,0)=d):bL A Y D j=decide (0<=DM d v):=by unfold bL;rw[kT,<-h,E]
theorem xU(h:Kh w a na ca b nb cb c nc cc A B C)(ok:Ej A B C=true){ya:l9}{yn yc:Nat}{Y:l7}(hY:i6 w ya yn yc Y){da:l9}{dn dc:Nat}{D:l7}(hD:i6 w da dn dc D)(hdn:nc<=dn):
 f8 252 #[Ig a na ca b nb cb c nc cc,GI ya yn yc,GI da dn dc] w (bl ((List.range (JL C)).all (bL A Y D))):=by
 have⟨r1,r2,r3,r4,r5,r6⟩:=dI h ok;subst r3;have B8:=C7.alloc w (bT a nb ca b nb cb c nc cc);refine ns B8 (h.ext B8) (hY.ext B8) (hD.ext B8) (ai w (bT a nb ca b nb cb c nc cc) _ rfl) λA8 H Qa Km HTB=>?_;have⟨Eu,GU⟩:=h.c.aq9;have⟨PH,WL⟩:=hD.aq9;refine Op ok (λj=>gQ (jJ (A:=A) (λi hi=>(r5 i (k8 h.a.hlen)).2) j)) (show(List.range (JL C)).all (bL A Y D)=(List.range nc).all (bL A Y D)by rw[h.c.hlen]) h.a.hlen λFs Qh HE Hc=>?_;clear h hY hD B8 ok r4 r5 r6;unfold f8;go_in
 go_wp2
 go_loopg [7] nc (λgk ii wr=>∃k:Nat,b9 (gk+k=nc)/\ii=U k/\b9 ((List.range k).all (bL A Y D)=true)/\b9 (C7 (w.alloc (bT a nb ca b nb cb c nc cc)) wr))
 ·exact N0
 obtain⟨k,HK,rfl,HA,HX⟩:=hrel;have⟨p0,p1,p2⟩:=gl (HX.blk HTB);by_cases hlt:k<nc
 ·have KX:=I (Bp (H.ext HX) Fs.o hlt);go_wp2_with fail;refine PP KX λw2 v2 ho hx=>?_;obtain⟨a2,n2,c2,rfl,Hb⟩:=ho.var;have Nf:n2<=1048576:=by have h1:=Hb.o;rw[pQ,Hc.o]at h1;omega
  have aa:=I (HX.trans hx);have Z:=I (oP ho.ints (Qh k) Nf (Qa.ext aa));have⟨dv,QS⟩:=GT (DZ (aG (El A k)) Y);rw[<-QS.o]at Z;clear ho p0 p1 p2;cases dv with
  | none =>
    rw[show Ex none=((0,0),false)from rfl]at Z;have HF:b9 ((List.range nc).all (bL A Y D)=false):=eh hlt (yF QS);go_wp2_with fail;refine i7 Z λw3 B5=>?_;have X3:=I (aa.trans B5);have⟨E,hE⟩:=e9 (w3.alloc (QD #[U 0,U 0] 56));have XE:=I (show C7 w3 E by rw[hE];exact WU);go_upto_region 5 with fail;rw[<-hE];clear hE;have o7:=C7.drew E;refine nE (S:=(λw'=>C7 E w')) j8 ?_ (λo9=>?_)
    ·exact o7
    refine mq ⟨?_⟩;refine PV ⟨?_⟩;refine tk 7 ?_;refine tk 8 ?_;refine tk 9 ?_;refine tk 10 ?_;refine Pi j8 ?_ _;go_wp2;go_ret;exact⟨ag (by rw[HE.o,HF.o]),((A8.trans X3).trans XE).trans o7⟩
  | some r =>
    obtain⟨r1,r2⟩:=r;rw[show Ex (some (r1,r2))=((r1,r2),true)from rfl]at Z;go_wp2_with fail;refine i7 Z λw3 B5=>?_;have X3:=I (aa.trans B5);have⟨E,hE⟩:=e9 (w3.alloc (QD #[U r1,U r2] 56));have⟨gz,Pg⟩:=e9 w3.heap.size;have Gg:C7 w3 E:=by rw[hE];exact WU
    have XE:=I (X3.trans Gg);have b0:E.cell? (O gz 0)=some (U r1):=by rw[hE,Pg];simp
    have b1:E.cell? (O gz 1)=some (U r2):=by rw[hE,Pg];simp
    have⟨db,OO,dx,dy,hda,P9,e0,e1⟩:=(Km.ext XE).at (show k<dn by omega);subst hda;have⟨cm,K3⟩:=e9 (DM (dx,dy) (r1,r2));have HB:=I (show bL A Y D k=decide (0<=cm)by rw[K3];exact yG QS.o P9);have H6:=I (λw'=>eK dx dy r1 r2 w');simp only[<-K3]at H6;go_upto_region 5 with fail;rw[<-hE,<-Pg];clear hE Pg Gg K3 P9;have B6:=Rd k dn
    have KN:=ST k;have o7:=C7.drew E;have o8:=I λw' (h:C7 E w')=>TX (h.o6 e0) (TX (h.o6 e1) (TX (h.o6 b0) (TX (h.o6 b1) h)));refine mc o8 o7 λo9=>?_;refine mq ⟨?_⟩;refine PV ⟨?_⟩;refine tk 7 ?_;refine rd 8 λK hK=>?_;go_simp
    (go_at_call 187;refine IR (H6 _) λw4 DN=>?_;have o7:=o7.trans DN)
    go_wp2_with fail;refine KO (o8 _ o7) λo9=>?_;refine tk 9 ?_;refine tk 10 ?_;refine Pi j8 ?_ _;have X2:=I (XE.trans o7);clear o7;by_cases D1:cm<0
    ·have HF:b9 ((List.range nc).all (bL A Y D)=false):=eh hlt (by rw[HB.o];simp;omega);go_wp2;go_ret;exact⟨ag (by rw[HE.o,HF.o]),A8.trans X2.o⟩
    have HT:=I (show(List.range (k+1)).all (bL A Y D)=true by rw[jq,HA.o,HB.o];simp;omega);exact W2
 have DV:nc=k:=k8 HK.o;subst DV;have qq0:=@ag;exact YF
end
section
variable{w:J}{a:l9}{na ca:Nat}{b:l9}{nb cb:Nat}{c:l9}{nc cc:Nat}{A:l8}{B:o3}{C:l7}
 {xa:l9} {xn xc:Nat} {ya:l9} {yn yc:Nat} {ra:l9} {rn rc:Nat} {r:G9}
def Tc(A:l8)(B:o3)(C:l7)(r:G9):Bool:=eO A B (JL C) r.X&&(decide (JL r.Y=JL B)&&((List.range (JL C)).all (bL A r.Y C)&&jP B C r))
theorem zg(h:Kh w a na ca b nb cb c nc cc A B C)(h':R1 w xa xn xc ya yn yc ra rn rc r)(ok:Ej A B C=true):
 f8 250 #[Ig a na ca b nb cb c nc cc,H8 r xa xn xc ya yn yc ra rn rc] w (bl (Tc A B C r)):=by
 have⟨r1,r2,r3,r4,r5,r6⟩:=dI h ok;subst r3;have T0:=I (nf.zero h h');have⟨EN,KG⟩:=h'.y.aq9;have⟨Eu,GU⟩:=h.c.aq9;have⟨E6,Ew⟩:=h.b.aq9;have Fs:=I ok;have YA:=I (gQ r6);obtain⟨st,rX,rY,rr,rv,rp⟩:=r;obtain⟨v1,v2⟩:=rv;have Rm:=I h'.y.hlen;have⟨fv,hfv⟩:=e9 (eO A B (JL C) rX);have aa:=I (show Tc A B C ⟨st,rX,rY,rr,(v1,v2),rp⟩=(fv&&(decide (yn=nb)&&((List.range (JL C)).all (bL A rY C)&&jP B C ⟨st,rX,rY,rr,(v1,v2),rp⟩)))by
  unfold Tc;rw[hfv,h.b.hlen];simp only;rw[show rY.length=yn from h'.y.hlen])
 have HF:=I (λ(W:J) (t:nf w W a nb ca b nb cb c nc cc xa xn xc ya yn yc ra rn rc ⟨st,rX,rY,rr,(v1,v2),rp⟩ A B C)=>oq t.lp Fs.o t.lr.x);simp only[<-hfv]at HF;have⟨dv,JX⟩:=e9 ((List.range (JL C)).all (bL A rY C));have HD:=I (λ(W:J) (t:nf w W a nb ca b nb cb c nc cc xa xn xc ya yn yc ra rn rc ⟨st,rX,rY,rr,(v1,v2),rp⟩ A B C)=>xU t.lp Fs.o t.lr.y t.lp.c (i8 _));simp only[<-JX]at HD;rw[<-JX]at aa;clear h h' ok r4 r5 r6 hfv JX;have⟨V,hV⟩:=e9 (Tc A B C ⟨st,rX,rY,rr,(v1,v2),rp⟩);rw[<-hV];have QR:=I (hV.trans aa);clear hV;cases fv
 ·have HZ:=I (show false=V by rw[QR.o];rfl);unfold f8;go_in
  have⟨p0,p1,p2⟩:=T0.p;have⟨Z,q1,q2,K,H,G⟩:=T0.q;go_wp2_with fail;refine i7 (HF _ T0) λw1 hx=>?_;have T1:=I (T0.grow hx);clear p0 p1 p2 Z q1 q2 K H G;go_wp2;go_ret;exact⟨ag HZ.o,T1.all⟩
 by_cases Lj:yn=nb
 ·subst Lj;have hne:((yn:Int) != (yn:Int))=false:=by simp
  cases dv
  ·have HZ:=I (show false=V by rw[QR.o];simp);unfold f8;go_in
   have⟨p0,p1,p2⟩:=T0.p;have⟨Z,q1,q2,K,H,G⟩:=T0.q;go_wp2_with fail;refine i7 (HF _ T0) λw1 hx=>?_;have T1:=I (T0.grow hx);clear p0 p1 p2 Z q1 q2 K H G;have⟨p0,p1,p2⟩:=T1.p;have⟨Z,q1,q2,K,H,G⟩:=T1.q;go_wp2_with fail;refine i7 (HD _ T1) λw2 hx=>?_;have ab:=I (T1.grow hx);clear p0 p1 p2 Z q1 q2 K H G;go_wp2;go_ret;exact⟨ag HZ.o,ab.all⟩
  have⟨dx,P9⟩:=e9 (DZ C rX);have⟨dy,RS⟩:=e9 (DZ (aG B) rY);have HM:=I (show V=mA dx dy (v1,v2)by
   rw[QR.o,P9,RS];simp only[y6,decide_true];rw[xg];simp only;rw[kT rY])
  have Rp:=I (λ(W:J) (t:nf w W a yn ca b yn cb c nc cc xa xn xc ya yn yc ra rn rc ⟨st,rX,rY,rr,(v1,v2),rp⟩ A B C)=>qy t.lp.c t.lr.x);have YC:=I (λ(W:J) (t:nf w W a yn ca b yn cb c nc cc xa xn xc ya yn yc ra rn rc ⟨st,rX,rY,rr,(v1,v2),rp⟩ A B C)=>oP t.lp.b YA.o j0 t.lr.y);simp only[<-P9]at Rp;simp only[<-RS]at YC;clear P9 RS;obtain⟨x1,x2,YF,P5⟩:∃x1 x2 YF,Ex dx=((x1,x2),YF):=⟨_,_,_,rfl⟩;obtain⟨y1,y2,Pu,PA⟩:∃y1 y2 Pu,Ex dy=((y1,y2),Pu):=⟨_,_,_,rfl⟩;have Ir:=I P5;have Qa:=I PA;simp only[P5]at Rp;simp only[PA]at YC;clear P5 PA;unfold f8;go_in
  have⟨p0,p1,p2⟩:=T0.p;have⟨Z,q1,q2,K,H,G⟩:=T0.q;go_wp2_with fail;refine i7 (HF _ T0) λw1 hx=>?_;have T1:=I (T0.grow hx);clear p0 p1 p2 Z q1 q2 K H G;have⟨p0,p1,p2⟩:=T1.p;have⟨Z,q1,q2,K,H,G⟩:=T1.q;go_wp2_with fail;refine i7 (HD _ T1) λw2 hx=>?_;have ab:=I (T1.grow hx);clear p0 p1 p2 Z q1 q2 K H G;have⟨p0,p1,p2⟩:=ab.p;have⟨Z,q1,q2,K,H,G⟩:=ab.q;go_wp2_with fail;refine i7 (Rp _ ab) λw3 hx=>?_;have⟨E,hE⟩:=e9 (w3.alloc (QD #[U x1,U x2] 56));have⟨gx,hgx⟩:=e9 w3.heap.size;have Gg:C7 w3 E:=by rw[hE];exact WU
  have TE:=I ((ab.grow hx).grow Gg);have Ko:=I (show ah w3 E gx x1 x2 by rw[hE,hgx];exact ah.new WF _ _);go_upto_region 4 with fail;rw[<-hE,<-hgx];clear hE Gg hgx p0 p1 p2 Z q1 q2 K H G;have⟨p0,p1,p2⟩:=TE.p;have⟨Z,q1,q2,K,H,G⟩:=TE.q;go_wp2_with fail;refine i7 (YC _ TE) λw4 hx=>?_;have⟨F,hF⟩:=e9 (w4.alloc (QD #[U y1,U y2] 56));have⟨gy,hgy⟩:=e9 w4.heap.size;have hxF:C7 w4 F:=by rw[hF];exact WU
  refine t8 ((TE.grow hx).grow hxF) (Ko.grow (hx.trans hxF)) (show ah w4 F gy y1 y2 by rw[hF,hgy];exact ah.new WF _ _) λT2 Fy Ee=>?_;go_upto_region 5 with fail;rw[<-hF,<-hgy];clear hF hxF hgy p0 p1 p2 Z q1 q2 K H G;have⟨p0,p1,p2⟩:=T2.p;have⟨Z,q1,q2,K,H,G⟩:=T2.q;have c0:=Fy.c0;have c1:=Fy.c1;have g0:=Ee.c0;have g1':=Ee.c1;cases dx with
  | none =>
    have Kd:YF=false:=by have:=Ir.o;simp only[Ex]at this;simpa using (If Prod.snd this).symm
    subst Kd;go_wp2;go_ret;exact⟨ag (by rw[HM.o,(mB _ _).1]),T2.all⟩
  | some xv =>
    have Kd:YF=true:=by have:=Ir.o;simp only[Ex]at this;simpa using (If Prod.snd this).symm
    have LZ:xv=(x1,x2):=by have:=Ir.o;simp only[Ex]at this;simpa using If Prod.fst this
    subst Kd LZ;cases dy with
    | none =>
      have Kd:Pu=false:=by have:=Qa.o;simp only[Ex]at this;simpa using (If Prod.snd this).symm
      subst Kd;go_wp2;go_ret;exact⟨ag (by rw[HM.o,(mB _ _).2]),T2.all⟩
    | some yv =>
      have Kd:Pu=true:=by have:=Qa.o;simp only[Ex]at this;simpa using (If Prod.snd this).symm
      have LZ:yv=(y1,y2):=by have:=Qa.o;simp only[Ex]at this;simpa using If Prod.fst this
      subst Kd LZ;have O1:=I (show V=(((x1 == y1)&&(x2 == y2))&&((x1 == v1)&&(x2 == v2)))by rw[HM.o,rF]);cases h1:(x1 == y1)
      all_goals
       cases h2:(x2 == y2)
      all_goals
       have HE:=I O1.o;rw[h1,h2]at HE
      all_goals try(
       have HF:=I (show V=false by rw[HE.o];rfl);go_wp2;go_ret;exact⟨ag HF.symm,T2.all⟩)
      cases h3:(x1 == v1)
      all_goals
       cases h4:(x2 == v2)
      all_goals
       rw[h3,h4]at HE;exact IA
 have hne:((yn:Int) != (nb:Int))=true:=m9;have HZ:=I (show false=V by rw[QR.o,Ok Lj];rfl);unfold f8;go_in
 have⟨p0,p1,p2⟩:=T0.p;have⟨Z,q1,q2,K,H,G⟩:=T0.q;go_wp2_with fail;refine i7 (HF _ T0) λw1 hx=>?_;have T1:=I (T0.grow hx);clear p0 p1 p2 Z q1 q2 K H G;have⟨p0,p1,p2⟩:=T1.p;have⟨Z,q1,q2,K,H,G⟩:=T1.q;go_wp2;go_ret;exact⟨ag HZ.o,T1.all⟩
end
theorem BW{v:o4}(E:z7 v=true):decide (0<=DM (0,1) v)=decide (v.1<=0):=by
 have hb:=aU E;unfold DM;rw[f9 (by rw[E];decide)];simp only;by_cases h:v.1<=0
 ·rw[f7 j0,UV h];split<;>rfl
 rw[f9 j0,Ok h];rfl
theorem yH(A:l8)(Y:l7)(K:∀j,j<n->D[j]?.getD (0,0)=(0,1)):(List.range n).all (bL A Y D)=(List.range n).all (ZT A Y):=by
 rw[yy,gy,gy];have G:∀j,j<n->bL A Y D j=ZT A Y j:=by
  intro j E;unfold bL ZT WI;rw[K j E];cases H:DZ Y (aG (El A j))with
  | none=>rfl
  | some v=>exact BW (eF H).2.1
 constructor
 ·intro h j E;rw[<-G j (sj.1 E)];exact h j E
 intro h j E;rw[G j (sj.1 E)];exact h j E
theorem xA(h:j<n):(List.replicate n ((0:Int),(1:Int)))[j]?.getD (0,0)=(0,1):=by rw[Tl,f9 h];rfl
section
variable{w:J}{a:l9}{na ca:Nat}{b:l9}{nb cb:Nat}{c:l9}{nc cc:Nat}{A:l8}{B:o3}{C:l7}
 {xa:l9} {xn xc:Nat} {ya:l9} {yn yc:Nat} {ra:l9} {rn rc:Nat} {r:G9}
theorem Bm(h:Kh w a na ca b nb cb c nc cc A B C)(E:R1 w xa xn xc ya yn yc ra rn rc r)(ok:Ej A B C=true)(hs:r.status=1):
 f8 180 #[Ig a na ca b nb cb c nc cc,H8 r xa xn xc ya yn yc ra rn rc] w (bl (aQ bL A B C r)):=by
 have⟨r1,r2,r3,r4,r5,r6⟩:=dI h ok;subst r3;have T0:=I (nf.zero h E);have⟨EN,KG⟩:=E.y.aq9;have⟨Eh,FZ⟩:=E.IJ.aq9;have⟨Eu,GU⟩:=h.c.aq9;have⟨E6,Ew⟩:=h.b.aq9;refine t8 ok (gQ r6) r5 λFs YA JR=>?_;obtain⟨st,Z,Q,K,rv,H⟩:=r;obtain⟨v1,v2⟩:=rv;simp only at hs;subst hs;refine ns E.y.hlen h.b.hlen h.c.hlen E.IJ.hlen (eV T0.lp) λRm FN Hk Ft HV=>?_;rw[ok]at HV;have⟨V,hV⟩:=e9 (aQ bL A B C ⟨1,Z,Q,K,(v1,v2),H⟩);rw[<-hV];have I6:=I (show V=Tc A B C ⟨1,Z,Q,K,(v1,v2),H⟩by rw[hV];unfold aQ Tc;rw[f9 rfl]);have LI:=I (λ(W:J) (t:nf w W a nb ca b nb cb c nc cc xa xn xc ya yn yc ra rn rc ⟨1,Z,Q,K,(v1,v2),H⟩ A B C)=>zg t.lp t.lr Fs);simp only[<-I6.o]at LI;clear h E ok r4 r5 r6;clear hV;unfold f8;go_in
 have⟨p0,p1,p2⟩:=T0.p;have⟨q0,q1,q2,q3,q4,q5⟩:=T0.q;go_wp2_with fail;refine i7 HV λw1 hx=>?_;have G:=I (T0.grow hx);clear p0 p1 p2 q0 q1 q2 q3 q4 q5;have⟨p0,p1,p2⟩:=G.p;have⟨q0,q1,q2,q3,q4,q5⟩:=G.q;have T1F:=I (G.ext.o6 (v:=U H) (a:=(O (w+1) 6)) j7);have q6:=T1F.o;go_wp2_with fail;refine i7 (LI _ G) λw2 hx=>?_;have T2:=I (G.grow hx);clear p0 p1 p2 q0 q1 q2 q3 q4 q5 q6;go_wp2;go_ret;exact⟨rfl,T2.all⟩
def Mw(h:σ:=by
 refine mc o8 o7 λo9=>?_;refine vA ⟨?_⟩;refine rd 14 λK hK=>?_;go_simp
 (go_at_call 253;refine(lv nc j0).mono ?_;rintro e w3 ⟨⟨v3,rfl,EV⟩,B5⟩;have o7:=o7.trans B5;obtain⟨a3,n3,c3,rfl,LD⟩:=EV.var;have Oj:nc<=n3:=by(have h1:=LD.out;rw[G6]at h1;omega))
 go_wp2_with fail;refine KO (o8 _ o7) λo9=>?_;refine rd 15 λK hK=>?_;go_simp
 (go_at_call 252;refine(HDU _ (TE.grow o7) _ _ _ EV.rats Oj).mono ?_;rintro e w4 ⟨rfl,DN⟩;have o7:=o7.trans DN)
 go_wp2_with fail;refine KO (o8 _ o7) λo9=>?_;refine tk 16 ?_;refine tk 17 ?_;refine ck ⟨?_⟩;refine tk 21 ?_;refine tk 22 ?_;refine Wj ⟨?_⟩;refine Pi j8 ?_ _;go_wp2;go_ret;exact⟨ag HZ.o,(TE.grow o7).all⟩
 ):σ:=h
theorem Bn(h:Kh w a na ca b nb cb c nc cc A B C)(h':R1 w xa xn xc ya yn yc ra rn rc r)(ok:Ej A B C=true)(hs:r.status=2):
 f8 180 #[Ig a na ca b nb cb c nc cc,H8 r xa xn xc ya yn yc ra rn rc] w (bl (aQ bL A B C r)):=by
 have⟨r1,r2,r3,r4,r5,r6⟩:=dI h ok;subst r3;have T0:=I (nf.zero h h');have⟨EN,KG⟩:=h'.y.aq9;have⟨Eh,FZ⟩:=h'.IJ.aq9;have⟨Eu,GU⟩:=h.c.aq9;have⟨E6,Ew⟩:=h.b.aq9;have Fs:=I ok;have YA:=I (gQ r6);have JR:=I r5;obtain⟨st,rX,G,rr,rv,rp⟩:=r;obtain⟨v1,v2⟩:=rv;simp only at hs;subst hs;have Rm:=I h'.y.hlen;have FN:=I h.b.hlen;have Hk:=I h.c.hlen;have Ft:=I h'.IJ.hlen;have HV:=I (eV T0.lp);rw[ok]at HV;have⟨V,hV⟩:=e9 (aQ bL A B C ⟨2,rX,G,rr,(v1,v2),rp⟩);rw[<-hV];have⟨dv,JX⟩:=e9 ((List.range (JL C)).all (bL A G (List.replicate nc (0,1))));have⟨dy,RS⟩:=e9 (DZ (aG B) G);have I6:=I (show V=(decide (yn=nb)&&(dv&&Vh dy))by
  rw[hV,JX,RS];unfold aQ;rw[f7 j7,f9 rfl];simp only;rw[rO,FN.o,show G.length=yn from Rm.o,kT G,yH A G (λj hj=>xA (by rw[<-Hk.o];exact hj))])
 have HDU:=I (λ(W:J) (t:nf w W a nb ca b nb cb c nc cc xa xn xc ya yn yc ra rn rc ⟨2,rX,G,rr,(v1,v2),rp⟩ A B C) (za:l9) (zn zc:Nat) (hz:i6 W za zn zc (List.replicate nc (0,1))) (Te:nc<=zn)=>xU t.lp Fs.o t.lr.y hz Te);have YC:=I (λ(W:J) (t:nf w W a nb ca b nb cb c nc cc xa xn xc ya yn yc ra rn rc ⟨2,rX,G,rr,(v1,v2),rp⟩ A B C)=>oP t.lp.b YA.o j0 t.lr.y);simp only[<-JX]at HDU;simp only[<-RS]at YC;obtain⟨Z,y2,Pu,PA⟩:∃Z y2 Pu,Ex dy=((Z,y2),Pu):=⟨_,_,_,rfl⟩;simp only[PA]at YC;have Qa:=I (show Vh dy=(Pu&&decide (0<Z))by
  cases dy with
  | none=>simp only[Ex]at PA;cases PA;rfl
  | some v=>obtain⟨z1,z2⟩:=v;simp only[Ex,Nm,bk,wb]at PA;obtain⟨⟨rfl,rfl⟩,rfl⟩:=PA;rfl)
 clear h h' ok r4 r5 r6;clear hV JX RS PA;have Is:((2:Int) == 1)=false:=by decide
 unfold f8;go_in
 have⟨p0,p1,p2⟩:=T0.p;have⟨q0,q1,q2,q3,q4,q5⟩:=T0.q;go_wp2_with fail;refine i7 HV λw1 hx=>?_;have T1:=I (T0.grow hx);clear p0 p1 p2 q0 q1 q2 q3 q4 q5;have⟨p0,p1,p2⟩:=T1.p;have⟨q0,q1,q2,q3,q4,q5⟩:=T1.q;go_wp2_with fail;refine i7 (YC _ T1) λw2 hx=>?_;have⟨E,hE⟩:=e9 (w2.alloc (QD #[U Z,U y2] 56));have⟨gx,H⟩:=e9 w2.heap.size;have Gg:C7 w2 E:=by rw[hE];exact WU
 have TE:=I ((T1.grow hx).grow Gg);have Ko:=I (show ah w2 E gx Z y2 by rw[hE,H];exact ah.new WF _ _);go_upto_region 8 with fail;rw[<-hE,<-H];clear hE Gg H p0 p1 p2 q0 q1 q2 q3 q4 q5;have⟨p0,p1,p2⟩:=TE.p;have⟨q0,q1,q2,q3,q4,q5⟩:=TE.q;have b0:=Ko.c0;have b1:=Ko.c1;have o7:=C7.drew E;have o8:=I λw' (h:C7 E w')=>TX (h.o6 p0) (TX (h.o6 p1) (TX (h.o6 p2) (TX (h.o6 q2) (TX (h.o6 b0) (TX (h.o6 b1) h)))));by_cases Lj:yn=nb
 ·have hne:((yn:Int) == (nb:Int))=true:=by simp;omega
  have Y4:=I Lj;clear Lj;cases dv
  ·have HZ:=I (show false=V by rw[I6.o];simp);exact Mw
  cases Pu
  ·have HZ:=I (show false=V by rw[I6.o,Qa.o,UV Y4.o];simp);exact Mw
  have HZ:=I (show decide (0<Z)=V by rw[I6.o,Qa.o,UV Y4.o];simp);exact Mw
 have hne:((yn:Int) == (nb:Int))=false:=m9;have HZ:=I (show false=V by rw[I6.o,Ok Lj];rfl);clear Lj;refine mc o8 o7 λo9=>?_;refine vA ⟨?_⟩;refine LA ⟨?_⟩;refine Wj ⟨?_⟩;refine Pi j8 ?_ _;go_wp2;go_ret;exact⟨ag HZ.o,(TE.grow o7).all⟩
def PC(h:σ:=by
 refine mc o8 o7 λo9=>?_;refine mq ⟨?_⟩;refine rd 3 λK hK=>?_;go_simp
 (go_at_call 255;refine(HF _ (TE.grow o7)).mono ?_;rintro e w3 ⟨rfl,B5⟩;have o7:=o7.trans B5)
 go_wp2_with fail;refine KO (o8 _ o7) λo9=>?_;refine gn ⟨?_⟩;refine TK ⟨?_⟩;refine tk 14 ?_;refine tk 15 ?_;refine rd 16 λK hK=>?_;go_simp
 (go_at_call 256;refine(HN _ (TE.grow o7)).mono ?_;rintro e w4 ⟨rfl,DN⟩;have o7:=o7.trans DN)
 go_wp2_with fail;refine KO (o8 _ o7) λo9=>?_;refine tk 17 ?_;refine ck ⟨?_⟩;refine tk 21 ?_;refine tk 22 ?_;refine tk 23 ?_;refine tk 24 ?_;have TG:=I (TE.grow o7);have YR:=o7;have o7:=YR.trans (C7.alloc w4 (QD (bH (List.replicate nb 0)) 3));refine rd 25 λK hK=>?_;go_simp;refine KO (o8 _ o7) λo9=>?_;refine rd 26 λK hK=>?_;go_simp
 (go_at_call 257;refine(JT _ TG).mono ?_;rintro e w5 ⟨rfl,Ey⟩;have o7:=o7.trans Ey)
 go_wp2_with fail;refine KO (o8 _ o7) λo9=>?_;refine VY ⟨?_⟩;refine Pi j8 ?_ _;go_wp2;go_ret;exact⟨ag HZ.o,(TE.grow o7).all⟩
 ):σ:=h
def v8(h:σ:=by
 refine mc o8 o7 λo9=>?_;refine mq ⟨?_⟩;refine rd 3 λK hK=>?_;go_simp
 (go_at_call 255;refine(HF _ (TE.grow o7)).mono ?_;rintro e w3 ⟨rfl,B5⟩;have o7:=o7.trans B5)
 go_wp2_with fail;refine KO (o8 _ o7) λo9=>?_;refine gn ⟨?_⟩;refine TK ⟨?_⟩;refine LA ⟨?_⟩;refine Wj ⟨?_⟩;refine tk 26 ?_;refine VY ⟨?_⟩;refine Pi j8 ?_ _;go_wp2;go_ret;exact⟨ag HZ.o,(TE.grow o7).all⟩
 ):σ:=h
theorem Bo(h:Kh w a na ca b nb cb c nc cc A B C)(h':R1 w xa xn xc ya yn yc ra rn rc r)(ok:Ej A B C=true)(hs:r.status=3):
 f8 180 #[Ig a na ca b nb cb c nc cc,H8 r xa xn xc ya yn yc ra rn rc] w (bl (aQ bL A B C r)):=by
 have⟨r1,r2,r3,r4,r5,r6⟩:=dI h ok;subst r3;have T0:=I (nf.zero h h');have⟨EN,KG⟩:=h'.y.aq9;have⟨Eh,FZ⟩:=h'.IJ.aq9;have⟨Eu,GU⟩:=h.c.aq9;have⟨E6,Ew⟩:=h.b.aq9;have Fs:=I ok;have YA:=I (gQ r6);have JR:=I r5;obtain⟨st,rX,rY,G,rv,rp⟩:=r;obtain⟨v1,v2⟩:=rv;simp only at hs;subst hs;have Rm:=I h'.y.hlen;have FN:=I h.b.hlen;have Hk:=I h.c.hlen;have Ft:=I h'.IJ.hlen;have HV:=I (eV T0.lp);rw[ok]at HV;have⟨V,hV⟩:=e9 (aQ bL A B C ⟨3,rX,rY,G,(v1,v2),rp⟩);rw[<-hV];have⟨fv,Z⟩:=e9 (eO A B (JL C) rX);have⟨pv,KK⟩:=e9 (J3 G);have⟨gv,Jd⟩:=e9 (em A G (List.replicate nb 0));have⟨dx,P9⟩:=e9 (DZ C G);have I6:=I (show V=(fv&&((decide (rn=nc)&&pv)&&(gv&&Vs dx)))by
  rw[hV,Z,KK,Jd,P9];unfold aQ;rw[f7 j7,f7 j7,f9 rfl];simp only;rw[zS,FN.o,Hk.o,show G.length=rn from Ft.o])
 have HF:=I (λ(W:J) (t:nf w W a nb ca b nb cb c nc cc xa xn xc ya yn yc ra rn rc ⟨3,rX,rY,G,(v1,v2),rp⟩ A B C)=>oq t.lp Fs.o t.lr.x);have HN:=I (λ(W:J) (t:nf w W a nb ca b nb cb c nc cc xa xn xc ya yn yc ra rn rc ⟨3,rX,rY,G,(v1,v2),rp⟩ A B C)=>lu t.lr.IJ);have hmk:=kj nb j0;have JT:=I (λ(W:J) (t:nf w W a nb ca b nb cb c nc cc xa xn xc ya yn yc ra rn rc ⟨3,rX,rY,G,(v1,v2),rp⟩ A B C)=>uN (b:=b) (nb:=nb) (cb:=cb) (c:=c) (nc:=nc) (cc:=cc) (t.grow (C7.alloc W (QD (bH (List.replicate nb 0)) 3))).lp.a (t.grow (C7.alloc W (QD (bH (List.replicate nb 0)) 3))).lr.IJ (nM.ints (show nM (W.alloc (QD (bH (List.replicate nb 0)) 3)) W 3 (List.replicate nb 0)from vC _ _) j7 (i8 nb) j0) (i8 _) JR);have Rp:=I (λ(W:J) (t:nf w W a nb ca b nb cb c nc cc xa xn xc ya yn yc ra rn rc ⟨3,rX,rY,G,(v1,v2),rp⟩ A B C)=>qy t.lp.c t.lr.IJ);simp only[<-Z]at HF;simp only[<-KK]at HN;simp only[<-Jd]at JT;simp only[<-P9]at Rp;obtain⟨x1,x2,YF,P5⟩:∃y1 y2 Pu,Ex dx=((y1,y2),Pu):=⟨_,_,_,rfl⟩;simp only[P5]at Rp;have Ir:=I (show Vs dx=(YF&&decide (x1<0))by
  cases dx with
  | none=>simp only[Ex]at P5;cases P5;rfl
  | some v=>obtain⟨z1,z2⟩:=v;simp only[Ex,Nm,bk,wb]at P5;obtain⟨⟨rfl,rfl⟩,rfl⟩:=P5;rfl)
 clear h h' ok r4 r5 r6;clear hV Z KK Jd P9 P5;have Is:((3:Int) == 1)=false:=by decide
 have GJ:((3:Int) == 2)=false:=by decide
 unfold f8;go_in
 have⟨p0,p1,p2⟩:=T0.p;have⟨q0,q1,q2,q3,q4,q5⟩:=T0.q;go_wp2_with fail;refine i7 HV λw1 hx=>?_;have T1:=I (T0.grow hx);clear p0 p1 p2 q0 q1 q2 q3 q4 q5;have⟨p0,p1,p2⟩:=T1.p;have⟨q0,q1,q2,q3,q4,q5⟩:=T1.q;go_wp2_with fail;refine i7 (Rp _ T1) λw2 hx=>?_;have⟨E,hE⟩:=e9 (w2.alloc (QD #[U x1,U x2] 56));have⟨gx,H⟩:=e9 w2.heap.size;have Gg:C7 w2 E:=by rw[hE];exact WU
 have TE:=I ((T1.grow hx).grow Gg);have Ko:=I (show ah w2 E gx x1 x2 by rw[hE,H];exact ah.new WF _ _);go_upto_region 11 with fail;rw[<-hE,<-H];clear hE Gg H p0 p1 p2 q0 q1 q2 q3 q4 q5;have⟨p0,p1,p2⟩:=TE.p;have⟨q0,q1,q2,q3,q4,q5⟩:=TE.q;have b0:=Ko.c0;have b1:=Ko.c1;have o7:=C7.drew E;have o8:=I λw' (h:C7 E w')=>TX (h.o6 p0) (TX (h.o6 p1) (TX (h.o6 p2) (TX (h.o6 q1) (TX (h.o6 q3) (TX (h.o6 b0) (TX (h.o6 b1) h))))));cases fv
 ·have HZ:=I (show false=V by rw[I6.o];rfl);exact v8
 by_cases IT:rn=nc
 ·have hne:((rn:Int) == (nc:Int))=true:=by simp;omega
  have Np:=I IT;clear IT;cases pv
  ·have HZ:=I (show false=V by rw[I6.o];simp);refine mc o8 o7 λo9=>?_;refine mq ⟨?_⟩;refine rd 3 λK hK=>?_;go_simp
   (go_at_call 255;refine IR (HF _ (TE.grow o7)) λw3 B5=>?_;have o7:=o7.trans B5)
   go_wp2_with fail;refine KO (o8 _ o7) λo9=>?_;refine gn ⟨?_⟩;refine TK ⟨?_⟩;refine tk 14 ?_;refine tk 15 ?_;refine rd 16 λK hK=>?_;go_simp
   (go_at_call 256;refine IR (HN _ (TE.grow o7)) λw4 DN=>?_;have o7:=o7.trans DN)
   go_wp2_with fail;refine KO (o8 _ o7) λo9=>?_;refine tk 17 ?_;refine ck ⟨?_⟩;refine tk 21 ?_;refine tk 22 ?_;refine Wj ⟨?_⟩;refine tk 26 ?_;refine VY ⟨?_⟩;refine Pi j8 ?_ _;go_wp2;go_ret;exact⟨ag HZ.o,(TE.grow o7).all⟩
  cases gv
  ·have HZ:=I (show false=V by rw[I6.o];simp);exact PC
  cases YF
  ·have HZ:=I (show false=V by rw[I6.o,Ir.o,UV Np.o];simp);exact PC
  have HZ:=I (show decide (x1<0)=V by rw[I6.o,Ir.o,UV Np.o];simp);exact PC
 have hne:((rn:Int) == (nc:Int))=false:=m9;have HZ:=I (show false=V by rw[I6.o,Ok IT];rfl);clear IT;exact v8
theorem Di(h:Kh w a na ca b nb cb c nc cc A B C)(E:R1 w xa xn xc ya yn yc ra rn rc r)(ok:Ej A B C=true):
 f8 180 #[Ig a na ca b nb cb c nc cc,H8 r xa xn xc ya yn yc ra rn rc] w (bl (aQ bL A B C r)):=by
 by_cases K:r.status=1
 ·exact Bm h E ok K
 by_cases H:r.status=2
 ·exact Bn h E ok H
 by_cases G:r.status=3
 ·exact Bo h E ok G
 have HE:=I (show aQ bL A B C r=false by unfold aQ;rw[f7 K,f7 H,f7 G]);have T0:=I (nf.zero h E);have HV:=I (eV T0.lp);rw[ok]at HV;obtain⟨st,rX,rY,rr,rv,rp⟩:=r;obtain⟨v1,v2⟩:=rv;simp only at K H G;have e1:(st == 1)=false:=m9;have e2:(st == 2)=false:=m9;have e3:(st == 3)=false:=m9;clear h E K H G;unfold f8;go_in
 have⟨p0,p1,p2⟩:=T0.p;have⟨q0,q1,q2,q3,q4,Z⟩:=T0.q;go_wp2_with fail;refine i7 HV λw1 hx=>?_;have Q:=I (T0.grow hx);clear p0 p1 p2 q0 q1 q2 q3 q4 Z;have⟨p0,p1,p2⟩:=Q.p;have⟨q0,q1,q2,q3,q4,Z⟩:=Q.q;go_wp2;go_ret;exact⟨ag HE.symm,Q.all⟩
end
def Ie(h:σ:=by
 have DV:k=n:=by have:=HK.o;omega
 subst DV;go_wp2;go_ret2;exact⟨⟨_,gm (by rw[HS.o,HR.o];rfl),by rw[HS.o,HR.o];exact HO1.mono (b7 _)⟩,HX.trans A0.o⟩
 ):σ:=h
def N9(h:σ:=by
 go_ret2;exact⟨⟨_,gm (by rw[HS.o,HN.o];rfl),by rw[HS.o,HN.o];exact WV.made _ _ j0⟩,HX.trans (X2.trans WU)⟩
 ):σ:=h
theorem pI{k1 k2:Int}{b:l9}{cap n' E:Nat}{A B:l7}(h:i6 w a n cap A)(h':i6 w b n' E B)(hbig:n<=1048576):
 Calls Tryz.prog 323 #[GI a n cap,EF k1 k2,GI b n' E] w λe w'=>(∃v,e=ar (.tuple #[v,bl (Gu A (k1,k2) B).isSome])/\WV w' w v ((Gu A (k1,k2) B).getD []))/\C7 w w':=by
 have HL:=I h.hlen;have OA:=I h'.hlen;have⟨r8,r9⟩:=h.aq9;have⟨WO,Wx⟩:=h'.aq9;refine t8 h h' (C7.alloc w (QD #[U k1,U k2] 56)) λHA HB' HX=>?_;clear h h';by_cases Z:n=n'
 ·subst Z;have HS:=I (show Gu A (k1,k2) B=LE (MD A (k1,k2) B) n by unfold Gu;rw[HL.o,OA.o,f9 rfl]);have HO:=I (WV.made (w.alloc (QD #[U k1,U k2] 56)) (w+1) j7);go_in
  go_wp2
  go_loopg [8,9] n (λgk o i wr=>∃(k:Nat) (a1:l9) (n1 p1:Nat) (r:l7),b9 (gk+k=n)/\i=U k/\o=GI a1 n1 p1/\b9 (LE (MD A (k1,k2) B) k=some r)/\b9 (WV wr (w+1) (GI a1 n1 p1) r)/\b9 (C7 (w.alloc (QD #[U k1,U k2] 56)) wr))
  ·exact WA
  obtain⟨k,a1,n1,p1,r,HK,rfl,rfl,HR,HO1,A0⟩:=hrel;have Ll:=A0.size;rw[O6]at Ll;by_cases G:k<n
  ·have Qz:wr.cell? (O w 0)=some (U k1):=A0.o6 j7;have Qy:wr.cell? (O w 1)=some (U k2):=A0.o6 j7;have⟨ab,Lu,ax,ay,ha,SJ,Jf,Je⟩:=((HA.ext HX).ext A0).at G;have⟨bb,L8,bx,by',hb,EX,NM,NL⟩:=((HB'.ext HX).ext A0).at G;subst ha hb;have HAX:=I SJ;have EC:=I EX;obtain⟨p,q,one,hm⟩:∃p q ok,cM (k1,k2) (bx,by')=((p,q),ok):=⟨_,_,_,rfl⟩;have HM:=I hm;obtain⟨p2,q2,two,Nc⟩:∃u v ok,Ev (ax,ay) (p,q)=((u,v),ok):=⟨_,_,_,rfl⟩;have GJ:=I Nc;clear SJ EX hm Nc;go_upto_region 7 with fail
   go_cut [10,11] (λsx so wx=>∃g:Nat,sx=aP (some (O g 0))/\so=bl one/\b9 (ah wr wx g p q))
   case first =>
    have qq0:=@xL;exact PW
   obtain⟨g,rfl,rfl,H⟩:=hcut;have g0:=H.c0;have g1:=H.c1;replace Jf:=H.ext.o6 Jf;replace Je:=H.ext.o6 Je;clear Qz Qy NM NL;go_upto_region 8 with fail
   go_cut [12,13] (λsx so wx=>∃g2:Nat,sx=aP (some (O g2 0))/\so=bl two/\b9 (ah wc wx g2 p2 q2))
   case first =>
    have qq0:=@iZ;exact Wp
   obtain⟨g2,rfl,rfl,Fy⟩:=hcut;have X2:=I ((A0.trans H.ext).trans Fy.ext);have Ec:=I ((HO1.ext H.ext).ext Fy.ext);have h0:=Fy.c0;have h1:=Fy.c1;have HF:=I (show MD A (k1,k2) B k=if(one&&two)=true then some (p2,q2) else none by unfold MD;rw[HAX.o,EC.o,HM.o];simp only;rw[GJ.o];simp only[eI]);clear Jf Je g0 g1;cases NN:(one&&two)
   ·have HN:b9 (LE (MD A (k1,k2) B) n=none):=fs HR.o (by rw[HF.o,NN];rfl) G;cases one
    case' true=>(have h2:two=false:=by simpa using NN);subst h2
    all_goals
     clear NN;go_wp2_with fail;have K:=X2.size;rw[O6]at K;exact N9
   exact Re
  exact Ie
 have HN:=I (show Gu A (k1,k2) B=none by unfold Gu;rw[HL.o,OA.o,f7 Z]);go_in
 go_wp2_with fail;have HO:=I (WV.made (w.alloc (QD #[U k1,U k2] 56)) w j7);go_ret2;exact⟨⟨_,gm cF,by rw[HN.o];simpa using HO.o⟩,HX.trans WU⟩
theorem ja{cap:Nat}{l:l7}(h:i6 w a n cap l)(hb:n<=1099511627776):
 Calls Tryz.prog 47 #[GI a n cap] w λe w'=>(∃v,e=ar v/\WV w' w v l)/\C7 w w':=by
 have H:=I (h.ext (C7.alloc w (QD #[] 56)));have G:=I (WV.made w w (i8 _));clear h;go_in
 go_wp2_with (at_builtin;refine cG rfl _ _ rfl w _ _ rfl G.o _ n _ l rfl H.o Yu j7 ?_;intro v' w1 ho hg r7);go_ret;exact⟨⟨_,rfl,by simpa using ho⟩,aj WU hg (λk E=>wZ (tu (show some w.heap.size=some k from E)))⟩
theorem BD{k1 k2:Int}{cap:Nat}{A:l7}(h:i6 w a n cap A)(hbig:n<=1048576):
 Calls Tryz.prog 340 #[GI a n cap,EF k1 k2] w λe w'=>(∃v,e=ar (.tuple #[v,bl (JM A (k1,k2)).isSome])/\WV w' w v ((JM A (k1,k2)).getD []))/\C7 w w':=by
 have HL:=I h.hlen;have⟨r8,r9⟩:=h.aq9;refine Op h (C7.alloc w (QD #[U k1,U k2] 56)) (show JM A (k1,k2)=LE (NS A (k1,k2)) n by unfold JM;rw[h.hlen]) (WV.made (w.alloc (QD #[U k1,U k2] 56)) (w+1) j7) λHA HX HS HO=>?_;clear h;go_in
 go_wp2
 go_loopg [6,7] n (λgk o i wr=>∃(k:Nat) (a1:l9) (K H:Nat) (r:l7),b9 (gk+k=n)/\i=U k/\o=GI a1 K H/\b9 (LE (NS A (k1,k2)) k=some r)/\b9 (WV wr (w+1) (GI a1 K H) r)/\b9 (C7 (w.alloc (QD #[U k1,U k2] 56)) wr))
 ·exact WA
 obtain⟨k,a1,K,H,r,HK,rfl,rfl,HR,HO1,A0⟩:=hrel;have Ll:=A0.size;rw[O6]at Ll;by_cases E:k<n
 ·have Qz:wr.cell? (O w 0)=some (U k1):=A0.o6 j7;have Qy:wr.cell? (O w 1)=some (U k2):=A0.o6 j7;have⟨ab,Lu,Z,ay,ha,SJ,Jf,Je⟩:=((HA.ext HX).ext A0).at E;subst ha;have HAX:=I SJ;obtain⟨p,q,one,hm⟩:∃p q ok,F1 (Z,ay) (k1,k2)=((p,q),ok):=⟨_,_,_,rfl⟩;have HM:=I hm;clear SJ hm;go_upto_region 5 with fail
  go_cut [8,9] (λsx so wx=>∃g:Nat,sx=aP (some (O g 0))/\so=bl one/\b9 (ah wr wx g p q))
  case first =>
   have o7:=C7.drew wr;have D0:C7 wr (wr.alloc (QD #[U 0,U 0] 56)).drew:=WU.trans cn;have o8:=I (λ(w':J) (h:C7 wr w')=>(an (h.o6 Qz) (an (h.o6 Qy) (an (h.o6 Jf) (an (h.o6 Je) h)))))
   go_region_held3 (λw'=>w'.cell? (O w 0)=some (U k1)/\w'.cell? (O w 1)=some (U k2)/\w'.cell? (O ab (Lu+k*2))=some (U Z)/\w'.cell? (O ab (Lu+k*2+1))=some (U ay)/\C7 wr w')
    (exact Hz)
    (first
      | ((with_reducible refine(xF Z ay k1 k2 _).mono ?_)
         rw[HM.o];rintro e w3 ⟨rfl,C6⟩
         first|(with_reducible have A1:=ah.grow A1 C6)|(with_reducible have A1:=ah.DS C6)|(with_reducible have A1:=ah.DX o7 C6)|skip
         first|(have IX:=A1.c0;have IW:=A1.c1;have Kf:=A1.free)|skip
         have o7:C7 wr w3:=ZC;have FB:=o7.size))
   all_goals(exact Jm)
  obtain⟨g,rfl,rfl,G⟩:=hcut;have g0:=G.c0;have g1:=G.c1;refine t8 (A0.trans G.ext) (HO1.ext G.ext) (show NS A (k1,k2) k=if one=true then some (p,q) else none by unfold NS;rw[HAX.o,HM.o]) λX2 Ec HF=>?_;have OM:=X2.size;rw[O6]at OM;clear Qz Qy Jf Je;cases one
  ·have HN:b9 (LE (NS A (k1,k2)) n=none):=fs HR.o Qs E;go_wp2_with fail;exact N9
  have I7:=I (ea (x:=(p,q)) HR.o Qs);have Ft:=I (cX HR)
  go_wp2_with (first
   | (at_builtin;refine Ot p q Ec X2 WB λa2 n2 c2 w4 Hb X5 EI=>?_))
  refine er ?_;exact⟨k+1,a2,n2,c2,_,I (k8 HK.o),by go_num,rfl,I7,EI,X5⟩
 exact Ie
section
variable{w:J}{ra:l9}{rn rc:Nat}{ba:l9}{bn bc:Nat}{t:Tb}{n m:Nat}{T0:Nat->Nat->Rat}
structure KB(w:J)(ra:l9)(rn rc:Nat)(ba:l9)(bn bc:Nat)(t:Tb)(n m:Nat):Prop where
 tb:OT w ra m rc ba m bc t
 rn:rn=m
 bn:bn=m
 A6:t.A6=n
theorem EY.sizes(h:EY n m T0 t)(hc:OT w ra rn rc ba bn bc t):rn=m/\bn=m:=⟨by rw[<-hc.rows.hlen];exact h.len,by rw[<-hc.basis.hlen];exact h.Ji⟩
def Wm(h:σ:=by
 rw[NK,Id Yl];exact HT.bas _ (eN _)
 ):σ:=h
theorem mP(h:OT w ra m rc ba m bc t)(hT:EY n m T0 t)(hn:n<=1000)(hm:m<=1000):
 f8 302 #[Oe ra m rc ba m bc (n:Int)] w (bl true):=by
 have B8:=C7.alloc w (de ra m rc ba m bc (n:Int));refine t8 B8 (h.ext B8) (ai w (de ra m rc ba m bc (n:Int)) _ rfl) λA8 H HTB=>?_;have⟨h1,h2⟩:=h.rows.aq9;have⟨h3,h4⟩:=h.basis.aq9;have HT:=I hT;clear h hT B8;have PB:¬(n:Int)<0:=j0;have FT:¬(n:Int) > 1000:=j0;have Q8:((m:Int) != (m:Int))=false:=j7;unfold f8;go_in
 go_wp2
 go_loopg [4] m (λgk ii wr=>∃k:Nat,b9 (gk+k=m)/\ii=U k/\b9 (C7 (w.alloc (de ra m rc ba m bc (n:Int))) wr))
 ·exact⟨0,I j0,rfl,I WF⟩
 obtain⟨k,HK,rfl,E⟩:=hrel;have⟨p0,p1,p2⟩:=gl (E.blk HTB);by_cases hlt:k<m
 ·have⟨zb,ED,ya,yn,yc,JA,F8,G⟩:=(H.ext E).rows.at hlt;subst JA;have Lj:yn=n+m+1:=by rw[<-G.hlen];exact(HT.row k hlt).1
  have⟨EN,KG⟩:=G.aq9;have⟨eb,DI,IU,Fg⟩:=(H.ext E).basis.at hlt;subst IU;have⟨bk,NK⟩:=e9 (t.basis[k]?.getD 0);rw[<-NK]at Fg;have Nj:0<=bk/\bk<n+m:=by
   exact Wm
  have Hl:=I (λw'=>bj bk 0 ((n:Int)+(m:Int)-1) w');rw[show A4 bk 0 ((n:Int)+(m:Int)-1)=true by unfold A4;simp;omega]at Hl;have Hn:=dk ((n:Int)+(m:Int));have hw2:=dk ((n:Int)+(m:Int)+1);have E8:=dk ((n:Int)+(m:Int)-1);have PA:((yn:Int) != (n:Int)+(m:Int)+1)=false:=m9;have KN:=ST k;have Gj:=Rd k m;clear G Lj NK Nj;go_upto_region 7 with fail;have Z:=C7.drew wr;have o8:=I λw' (h:C7 wr w')=>TX (h.o6 p0) (TX (h.o6 p1) (TX (h.o6 p2) (TX (h.o6 F8) (TX (h.o6 Fg) h))));refine mc o8 Z λo9=>?_
  refine vA ⟨?_⟩;refine LA ⟨?_⟩;refine rd 23 λK hK=>?_;go_simp
  (go_at_call 32;refine(Hl _).mono ?_;rintro e w3 ⟨rfl,rfl⟩)
  go_wp2_with fail;refine KO (o8 _ Z) λo9=>?_;refine tk 24 ?_;refine tk 25 ?_;refine Pi j8 ?_ _;have C0:=I (E.trans Z);clear Hn hw2 E8 PA p0 p1 p2 F8 Fg;go_wp2_with fail;refine er ?_;exact⟨k+1,I (k8 HK.o),by go_num,C0⟩
 have Iq:m=k:=k8 HK.o;subst Iq;go_wp2;go_ret;exact⟨rfl,A8.trans E.o⟩
end
