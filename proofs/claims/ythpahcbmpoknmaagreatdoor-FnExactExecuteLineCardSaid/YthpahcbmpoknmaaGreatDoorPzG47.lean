import Derived.Test.YthpahcbmpoknmaaGreatDoorPzG25
set_option linter.all false
set_option maxHeartbeats 6000000
set_option maxRecDepth 100000
namespace Go.Proofs.YthpahcbmpoknmaaGreatDoor
open Ending renaming returned->atn
open List renaming length->Lp
open Obj renaming cells->SH
open Value renaming slice->FB,bool->ato,pointer->ats
open Go.RowKit
variable{σ:Prop}
section
def PU(h:σ:=by have h2:=Qi.o;simp;omega):σ:=h
def Tv(h:σ:=by simp[results,qq0,go_sem,z0,z1,z2,z3,z4]<;>rfl):σ:=h
def Nc{P Q:Prop}(q:Q)(h:Q->P:=by intro q;go_roundg (gk-1);exact q;have:=HJ3.o;omega):P:=h q
def L7{P Q:Prop}(q:Q)(h:Q->P:=by intro q;go_roundg (g1-1);exact q;have:=HFU.o;omega):P:=h q
variable{w W w1:J}{base g n r:Nat}{v WM:atY}{l V:o7}{a:o6}{t:TypeId}{pt':o3}
theorem D5.aside{w2:J}{G:Nat}{vc:atY}{C:o3}(h:D5 w base g d9 (d9) vc [] [] [] C)(ho:y9 w G v l)(hg:w.grownBy w2 v.ownBlock):
 D5 w2 base g d9 (d9) vc [] [] [] C :=
 ⟨(hg.block g h.lt (aq ho h.box FS)).trans h.box,h.hg,E8.nil _ _,bG.nil _ _,y4,Ju.nil _,h.c.YK So ho hg⟩
theorem Nj{G vb:atY}{B:o7}(h:∀j,v.ownBlock=some j->vb.ownBlock≠some j)(hb:y9 w base vb B)(K:Jv w v G):∀j,G.ownBlock=some j->vb.ownBlock≠some j:=λj Q e=>by
 rcases K j Q with H|H
 ·exact h j H e
 have:=(hb.lt j e).2;omega
theorem Cl{p:Int}{m:Nat}(hm:m+1=Lp V):(aY V).take (m-1)++[(bu p V,1)]=dU p V:=by
 unfold dU;rw[show V.length-2=m-1 by omega]
theorem zY{m k:Nat}(hm:m+1=n):D8 (Fx 1 (m-1)) k++[-1]=eD n k:=by
 unfold eD;rw[show n-2=m-1 by omega]
theorem bG.UB{vs:List atY}{L:o4}(h:bG w base vs L)(ho:y9 w base v l)(G:Ju vs v):bG w base (vs++[v]) (L++[l]):=by
 refine⟨by simp[h.len],λi hi=>?_,λi j k Th K H=>?_⟩
 ·by_cases hl:i<Lp L
  ·rw[nP V6,nP hl];exact h.row i hl
  have:i=Lp L:=by simp at hi;omega
  subst this;rw[<-h.len];simp only[Rx,NE];rw[h.len];simp only[Rx,NE];exact ho
 by_cases hl:j<Lp L
 ·rw[nP Sr]at H;rw[nP V6];exact h.apart i j k Th hl H
 have:j=Lp L:=by simp at K;omega
 subst this;rw[nP Sr]at H;rw[<-h.len];simp only[Rx,NE];exact G i k Sr H
section
variable{w w2:J}{base g:Nat}{va vb vc:atY}{vs:List atY}{A:o4}{B:o7}{C:o3}
theorem D5.adm(h:D5 w base g va vb vc vs A B C){Q:Nat}{v:atY}{l:o7}(ho:y9 w Q v l)(K:w.grownBy w2 v.ownBlock)(H:Ju vs v)(hb:∀k,v.ownBlock=some k->vb.ownBlock≠some k):D5 w2 base g va vb vc vs A B C :=
 ⟨(K.block g h.lt (aq ho h.box FS)).trans h.box,h.hg,h.a.keep (λk G=>K.block k (h.a.lt k G).2 λe=>ho.apart h.a k e.symm G),
   h.rows.keep (λi k hi G=>K.block k ((h.rows.row i hi).lt k G).2 λe=>H i k (by rw[h.rows.len];exact hi) G e.symm),
   h.b.keep (λk G=>K.block k (h.b.lt k G).2 λe=>hb k e.symm G),h.off,h.c.YK So ho K⟩
theorem D5.afw(h:D5 w base g va vb vc vs A B C){G QC:atY}{r:o7}(hr:y9 w base G r)(H:Ju vs G)(hb:∀k,G.ownBlock=some k->vb.ownBlock≠some k)(K:w.grownBy w2 va.ownBlock)(ho:E8 w2 base QC (vs++[G])):
 D5 (w2.setCell (IM g 0) QC) base g QC vb vc (vs++[G]) (A++[r]) B C:=by
 have GB:w2.heap[g]?=some (SH #[va,vb,vc] 124 (0,0)):=(K.block g h.lt h.neA).trans h.box;have GX:∀k,k≠g->(w2.setCell (IM g 0) QC).heap[k]?=w2.heap[k]?:=λk hk=>If _ _ _ _ hk
 have RF:y9 w2 base vb B:=h.b.keep λk hk=>K.block k (h.b.lt k hk).2 λe=>h.b.apart h.a k hk e.symm
 have hC2:ZM w2 base vc C:=h.c.keep λk hk=>K.block k (h.c.lt k hk).2 λe=>aD FS h.c h.a k hk e.symm
 have ZO:bG w base (vs++[G]) (A++[r]):=h.rows.UB hr H;have SJ:bG w2 base (vs++[G]) (A++[r]):=ZO.keep λi k hi hk=>K.block k ((ZO.row i hi).lt k hk).2 λe=>(ZO.row i hi).apart h.a k hk e.symm
 refine⟨?_,h.hg,?_,?_,?_,?_,?_⟩
 ·exact N7
 ·exact PG
 ·exact tq
 ·exact Yx
 ·intro i k hi hk KE;by_cases hl:i<Lp vs
  ·rw[nP hl]at hk;exact h.off i k hl hk KE
  have Z:i=Lp vs:=by simp at hi;omega
  subst Z;rw[Rx,NE]at hk;exact hb k hk KE
 exact TV
end
def Q2(h:σ:=by
 exact⟨k+1,_,_,_,_,I (l8 HK.o),by go_num,rfl,HOA,HPA,XA⟩
 ):σ:=h
theorem EL{p:Int}{cap:Nat}(h:d6 w a n cap V):
 Calls Tryz.prog 178 #[Id p a n cap] w λe w'=>Y2 w' e (fe p.toNat n) (gm p.toNat) (dU p V) (ak p V&&decide (2<=p))/\D4 w w':=by
 have⟨W,hW⟩:=j7 ((w.alloc (SH #[.int .i64 p,FB a n cap] 31)).alloc (SH #[FB none 0 0,FB none 0 0,FB none 0 0] 124));refine y5 (show W.heap.size=w.heap.size+2 by rw[hW];simp) (show D4 w W by rw[hW];exact ZL.trans ZL) (show W.cell? ⟨w,1,none⟩=some (FB a n cap)by rw[hW];simp) (show W.cell? ⟨w,0,none⟩=some (.int .i64 p)by rw[hW];simp) (show W.heap[w.heap.size+1]?=some (SH #[FB none 0 0,FB none 0 0,FB none 0 0] 124 (0,0))by rw[hW];exact LE j9) h.hlen λFp B4 P9 OR Uj HVL=>?_;have PI:=h.y7;have PH:=h.y8;have Kx:=I (h.ext B4);have HC:=I (bY (p:=p) (h.ext B4));have LS:(w.heap.size+1)<W.heap.size:=by rw[Fp.o];omega
 have E6:=I (λ(w':J) (hx:D4 W w')=>(hx.block _ LS).trans Uj);clear h LS;cases hg:ak p V
 ·have qq0:=@Hm;exact ZA
 by_cases h2:p<2
 ·rw[hg,hW]at HC;have HBF:=I (show(true&&decide (2<=p))=false by rw[wq];exact RK O);clear hg;go_in
  go_wp2_with rfl;refine HC.mono ?_;rw[<-hW];rintro e w1 ⟨rfl,B0⟩;have FH:=D5.G9 (E6 w1 B0);have FL:=D5.G8 (E6 w1 B0);have Hs:=D5.Hw (E6 w1 B0);have JR:=D5.Hv (E6 w1 B0);have NJ:=B0.o9 OR.o;have A6:=I B0;clear B0;go_wp2;refine GE (v:=.tuple #[.agg #[FB none 0 0,FB none 0 0,FB none 0 0],ato false]) (by simp[results,Hm,go_sem,FH,FL,Hs]) rfl ⟨⟨none,0,0,none,0,0,none,0,0,by rw[HBF.o],λh=>by rw[HBF.o]at h;cases h⟩,(((B4.trans A6).store 0 O _).store 1 O _).store 2 O _⟩
 obtain⟨q,rfl,h1,h5,hlen,_,Ha⟩:=ap hg;have hq:=bp q h5;have hq4:=WT ⟨q,by omega⟩ (show 2<=q by omega);have IU:n<=32:=by rw[<-HVL.o,hlen];omega
 have Qq:4<=n:=by rw[<-HVL.o,hlen];exact hq4
 obtain⟨m,hm⟩:∃m:Nat,m+1=n:=⟨n-1,by omega⟩;have HMN:=I hm;have hm3:3<=m:=O;have hmn:m<n:=O;have hm31:m<=31:=O;have hnw:=qj ((n:Int)-1) (m:Int);refine Fn Ha (show(aY V).length=m by unfold aY;simp[HVL.o];omega) (λ(w':J) (hx:D4 W w')=>iY (p:=(q:Int)) (Kx.ext hx)) λJ9 HCL Lx=>?_;have⟨gv,KF⟩:=j7 (bu (q:Int) V);simp only[<-KF]at Lx;have HLS:=I (show(aY V).take (m-1)++[(gv,1)]=dU (q:Int) V by rw[KF];exact Cl (by rw[HVL.o];exact hm));have Qo:¬(q:Int)<2:=h2;rw[hg,hW]at HC;clear hg hlen Ha hq KF hm hq4;go_in
 go_wp2_with rfl;refine HC.mono ?_;rw[<-hW];clear hW;rintro e w1 ⟨rfl,B0⟩;have J2:=B0.size;rw[Fp.o]at J2;have A6:=I B0;have NJ:=B0.o9 OR.o;have Pt:=I (D5.new (w:=w1) (base:=w.heap.size+2) J2);have⟨g,K3⟩:=j7 w1.heap.size;have⟨E,hE⟩:=j7 (w1.alloc (SH #[FB none 0 0,FB none 0 0,FB none 0 0] 124));have Sa:=I (show D4 W E by rw[hE];exact B0.trans ZL);rw[<-K3,<-hE]at Pt;have TS:w.heap.size+2<=E.heap.size:=by rw[<-Fp.o];exact Sa.size
 clear B0;go_upto_region 4 with rfl;rw[<-hE,<-K3];clear hE K3 NJ;refine Fn (y9.Ft E (w+2) _ rfl TS) (Pt.ext (D4.alloc E (SH #[] 3))) (Sa.trans (D4.alloc E (SH #[] 3))) λHLA0 N1 C7=>?_;go_wp2
 go_loopg [5,6] (m-1) (λgk ll ii wr=>∃(k:Nat) (vc:atY) (al:o6) (nl cl:Nat),e9 (gk+k=m-1)/\ii=.int .i64 ((k+1:Nat):Int)/\ll=FB al nl cl/\e9 (y9 wr (w+2) (FB al nl cl) (List.replicate k 1))/\e9 (D5 wr (w+2) g (FB none 0 0) (FB none 0 0) vc [] [] [] ((aY V).take k))/\e9 (D4 W wr))
 ·exact⟨0,_,_,_,_,I O,rfl,rfl,HLA0,N1,C7⟩
 rename Nat=>g1;rename J=>A1;obtain⟨k,vc,al,nl,cl,HK,rfl,rfl,aa,GD,HX⟩:=hrel;have hsz:=HX.size;rw[Fp.o]at hsz;have T8:=HX.o9 P9.o;by_cases ad:k+1<m
 ·have hlt:k+1<n:=by omega
  have⟨eb,D6,Kl,GI⟩:=(Kx.ext HX).at hlt;subst Kl;have⟨v,hv⟩:=j7 (V[k+1]?.getD 0);have Ha:-500<=v/\v<=500:=by
   exact MZ
  rw[<-hv]at GI;have HV0:=I (show W.cell? ⟨eb,D6+(k+1),none⟩=some (.int .i64 v)by
   have⟨eb',Z9,PM,he'⟩:=Kx.at hlt;simp only[Pi,gl,gi]at PM;obtain⟨rfl,rfl⟩:=PM;rw[hv];exact he')
  have H7:=I (mU HVL.o hlt hv.symm);have Q':=dc (-v);have MI:(0:Int)<=((k+1:Nat):Int):=O;have Ij:((k+1:Nat):Int)<(m:Int):=O;have hk1n:((k+1:Nat):Int)<(n:Int):=O;have Wi:=qj (((k+1:Nat):Int)+1) ((k+1+1:Nat):Int);have r7:(0:Int)<=(k:Int)+1:=O;have Lm:(k:Int)+1<(m:Int):=O;have hk3n:(k:Int)+1<(n:Int):=O;have hk4:((k:Int)+1).toNat=k+1:=O;have Qw:=I (show((aY V).take k).length=k by rw[jt,HCL.o];omega);have t2:=GD.c2;clear hv;have r8:=I λw' (h:D4 A1 w')=>TX (h.o9 t2) (TX (h.o9 T8) (TX (h.o9 GI) (HX.trans h)));have C4:=D4.drew A1;go_upto_region 8 with rfl;refine cj (M:=[12]) (S:=λw'=>w'.cell? ⟨g,2,none⟩=some vc/\w'.cell? ⟨w,1,none⟩=some (FB (some ⟨eb,D6,none⟩) n cap)/\w'.cell? ⟨eb,D6+(k+1),none⟩=some (.int .i64 v)/\D4 W w') k8 ?_;have r9:=r8.o _ C4;have⟨wd,G⟩:=j7 A1.drew;rw[<-G]at C4 r9;rw[<-G];clear G;have Te:=C4.size;refine Lj ⟨?_⟩;refine lp 7 ?_;refine Im 8 λK hK=>?_
  go_simp;go_at_call 171;refine i6 (cV _ _) λw3 C0=>?_;have C4:D4 A1 w3:=C4.trans C0;have LR:=C4.size;go_wp2_with rfl;refine KL (r8 _ C4) λr9=>?_
  refine Im 9 λK hK=>?_;go_simp;refine hK.out _ _ (λ_=>r8.o _ (C4.trans ZL)) ?_;clear hK K
  try simp only[Act.put,sA,sB,sC]
  refine Im 10 λK hK=>?_;refine dw _ _ l7 (w+2) vc _ l7 ((GD.c.ext C4).ext ZL) _ 1 _ [(-v,1)] l7 (z6 rfl) o2 t8 ?_;intro v6 w6 ho K4 r';obtain⟨a6,n6,q6,rfl,Jy⟩:=ho.var;have Ps:=I (GD.UC (C4.trans ZL) K4 ho);have R3:=GD.adz (C4.trans ZL) K4;have c26:=D5.Hw R3;have cf6:=D5.Hv R3;have Ur:e9 (y9 (w6.setCell ⟨g,2,none⟩ (FB a6 n6 q6)) (w+2) (FB al nl cl) (List.replicate k 1)):=bg (aa.Sm (C4.trans ZL) GD.c K4) R3 FS;have NQ:D4 W w6:=aj ((HX.trans C4).trans ZL) K4 (λj Z=>by rw[Fp.o];exact(GD.c.lt j Z).1);clear ho K4 r' R3;refine KL ((⟨c26,NQ.o9 P9.o,NQ.o9 HV0.o,NQ⟩:w6.cell? ⟨g,2,none⟩=some vc/\w6.cell? ⟨w,1,none⟩=some (FB (some ⟨eb,D6,none⟩) n cap)/\w6.cell? ⟨eb,D6+(k+1),none⟩=some (.int .i64 v)/\D4 W w6)) λr9=>?_;refine lp 11 ?_;refine Ql 12 ?_;refine cU k8 ?_ _;have Kq:=I (NQ.setCell (p:=⟨g,2,none⟩) Ld (FB a6 n6 q6));have⟨W9,J6⟩:=j7 (w6.setCell ⟨g,2,none⟩ (FB a6 n6 q6));rw[<-J6]at Ps Kq Ur;go_upto_region 9 with rfl;rw[<-J6];clear J6 c26 cf6 r9 C4 NQ t2;have hs9:=Kq.size;rw[Fp.o]at hs9;have HP9:=I (show D5 W9 (w+2) g (FB none 0 0) (FB none 0 0) (FB a6 n6 q6) [] [] [] ((aY V).take (k+1))by rw[<-H7.o];exact Ps)
  go_wp2_with (first
   | (at_builtin;refine bK rfl _ _ rfl (w+2) (FB al nl cl) _ rfl (Ur.ext ZL) _ 1 _ [1] rfl (G3 j9) t8 t8 ?_;intro v10 O6 ho age r';have HPA:=I ((HP9.ext ZL).aside (Ur.ext ZL) age);have XA:=I (aj (D4.trans Kq.o ZL) age (λj Z=>by rw[Fp.o];exact(Ur.lt j Z).1));obtain⟨a10,n10,c10,rfl,adZ⟩:=ho.var;have HOA:=I (show y9 O6 (w+2) (FB a10 n10 c10) (List.replicate (k+1) 1)by rw[WR];exact ho);clear ho age r'))
  refine gy ?_;exact Q2
 have JS:k=m-1:=l8 HK.o;rw[JS]at aa GD;have agn:=HX.o9 OR.o;have t2:=GD.c2;have Qw:=I (show((aY V).take (m-1)).length=m-1 by rw[jt,HCL.o];omega);have F4:¬((k:Int)+1)<(m:Int):=O;have r8:=I λw' (h:D4 A1 w')=>TX (h.o9 t2) (TX (h.o9 agn) (TX (h.o9 T8) (HX.trans h)));have C4:=D4.drew A1;clear JS;go_upto_region 10 with rfl;refine cj (M:=[8]) (S:=λw'=>w'.cell? ⟨g,2,none⟩=some vc/\w'.cell? ⟨w,0,none⟩=some (.int .i64 (q:Int))/\w'.cell? ⟨w,1,none⟩=some (FB a n cap)/\D4 W w') k8 ?_;have r9:=r8.o _ C4;have⟨wd,G⟩:=j7 A1.drew;rw[<-G]at C4 r9;rw[<-G];clear G;have Te:=C4.size;refine lp 0 ?_;refine ll 1 ?_;refine ll 2 ?_;refine Im 3 λK hK=>?_
 go_simp;go_at_call 172;refine i6 (Lx _ (HX.trans C4)) λw3 C0=>?_;have C4:D4 A1 w3:=C4.trans C0;have LR:=C4.size;go_wp2_with rfl;refine KL (r8 _ C4) λr9=>?_
 refine Im 4 λK hK=>?_;go_simp;go_at_call 171;refine i6 (cV _ _) λw4 E4=>?_;have C4:D4 A1 w4:=C4.trans E4;have Wb:=C4.size;go_wp2_with rfl;refine KL (r8 _ C4) λr9=>?_
 refine Im 5 λK hK=>?_;go_simp;refine hK.out _ _ (λ_=>r8.o _ (C4.trans ZL)) ?_;clear hK K
 try simp only[Act.put,sA,sB,sC]
 refine Im 6 λK hK=>?_;refine dw _ _ l7 (w+2) vc _ l7 ((GD.c.ext C4).ext ZL) _ 1 _ [(gv,1)] l7 (z6 rfl) o2 t8 ?_;intro v6 w6 ho K4 r';obtain⟨a6,n6,q6,rfl,Jy⟩:=ho.var;have Ps:=I (GD.UC (C4.trans ZL) K4 ho);have R3:=GD.adz (C4.trans ZL) K4;have c26:=D5.Hw R3;have cf6:=D5.Hv R3;have Ur:e9 (y9 (w6.setCell ⟨g,2,none⟩ (FB a6 n6 q6)) (w+2) (FB al nl cl) (List.replicate (m-1) 1)):=bg (aa.Sm (C4.trans ZL) GD.c K4) R3 FS;have NQ:D4 W w6:=aj ((HX.trans C4).trans ZL) K4 (λj Z=>by rw[Fp.o];exact(GD.c.lt j Z).1);clear ho K4 r' R3;refine KL ((⟨c26,NQ.o9 OR.o,NQ.o9 P9.o,NQ⟩:w6.cell? ⟨g,2,none⟩=some vc/\w6.cell? ⟨w,0,none⟩=some (.int .i64 (q:Int))/\w6.cell? ⟨w,1,none⟩=some (FB a n cap)/\D4 W w6)) λr9=>?_;refine lp 7 ?_;refine Ql 8 ?_;refine cU k8 ?_ _;have Kq:=I (NQ.setCell (p:=⟨g,2,none⟩) Ld (FB a6 n6 q6));have⟨W9,J6⟩:=j7 (w6.setCell ⟨g,2,none⟩ (FB a6 n6 q6));rw[<-J6]at Ps Kq Ur;rw[HLS.o]at Ps;go_upto_region 11 with rfl;rw[<-J6];clear J6 c26 cf6 r9 C4 NQ t2 T8 agn hsz;have⟨L,hL⟩:=j7 (Fx 1 (m-1));have Gq:=I (show Lp L=m-1 by rw[hL];simp[Fx])
 have Jc:=I (λ(j:Nat) (Z:j<m-1)=>show L[j]?.getD 0=(j:Int)+1 by
  rw[hL,In (by simp[Fx];exact Z)]
  simp[Fx];omega)
 have HLE:=I (λk=>show D8 L k++[-1]=eD n k by rw[hL];exact zY HMN);clear hL;go_wp2
 go_loopg [7] q (λgk ii wr=>∃(k:Nat) (va vb:atY) (vs:List atY),e9 (gk+k=q)/\ii=.int .i64 (k:Int)/\e9 (D5 wr (w+2) g va vb (FB a6 n6 q6) vs ((List.range k).map (eD n)) (List.replicate k 0) (dU (q:Int) V))/\e9 (y9 wr (w+2) (FB al nl cl) (List.replicate (m-1) 1))/\e9 (∀j,(FB al nl cl).ownBlock=some j->vb.ownBlock≠some j)/\e9 (Ju vs (FB al nl cl))/\e9 (D4 W wr))
 ·exact⟨0,_,_,[],I O,rfl,Ps,Ur,I (λj _ h=>by cases h),I (Ju.nil _),Kq⟩
 rename Nat=>g2;rename J=>wr2;obtain⟨k,va,vb,vs,Q3,rfl,FF,aaS,VQ,HOV,C7⟩:=hrel;have J0:=C7.size;rw[Fp.o]at J0;have NJ:=C7.o9 OR.o;have OD:=C7.o9 P9.o;by_cases Vy:k<q
 ·have HO1:=I (y9.Ft wr2 wr2 _ rfl (m9 _));have hkqi:=SW k q;go_wp2
  go_loopg [8,9] (m-1) (λgk row ii wr=>∃(j:Nat) (a2:o6) (n2 p2:Nat),e9 (gk+j=m-1)/\ii=.int .i64 ((j+1:Nat):Int)/\row=FB a2 n2 p2/\e9 (y9 wr wr2 (FB a2 n2 p2) (D8 (L.take j) k))/\e9 (D4 wr2 wr))
  ·exact I1
  obtain⟨j,a2,n2,p2,HJ,rfl,rfl,HO,C5⟩:=hrel;have MC:=C5.size;have Qo:=C5.o9 OD;by_cases Hn:j+1<m
  ·have hjw:=qj (((j+1:Nat):Int)+1) ((j+1+1:Nat):Int);have agb:(j:Int)+1<(m:Int):=O;have hjl3:((j+1:Nat):Int)<(m:Int):=O;exact S'
  have agb:¬((j:Int)+1)<(m:Int):=O;have hjl3:¬((j+1:Nat):Int)<(m:Int):=O;have hTL:L.take j=L:=aP E9;rw[hTL]at HO;have HML:=I (show(D8 L k).length=m-1 by simp only[D8,b7];rw[Gq.o]);have P':=I (show Lp vs=k by rw[FF.rows.len];simp);have t0:=FF.c0;have OY:=I λw' (h:D4 wr2 w')=>TX (h.o9 t0) (C7.trans h);have C4:D4 wr2 wr.drew:=C5.trans (D4.drew wr);clear hTL;go_upto_region 19 with rfl;refine cj (M:=[8]) (S:=λw'=>w'.cell? ⟨g,0,none⟩=some va/\D4 W w') k8 ?_;have r9:=OY.o _ C4;have SR:=I (HO.ext (D4.drew wr));have⟨wd,G⟩:=j7 wr.drew;rw[<-G]at C4 SR r9;rw[<-G];clear G;have Te:=C4.size;refine lp 0 ?_;refine ll 1 ?_;refine lp 2 ?_;refine Im 3 λK hK=>?_
  go_simp;refine hK.out _ _ (λ_=>OY.o _ (C4.trans ZL)) ?_;clear hK K
  try simp only[Act.put,sA,sB,sC]
  refine Im 4 λK hK=>?_;refine aO _ _ l7 wr2 (FB a2 n2 p2) _ l7 (SR.ext ZL) _ 1 _ [-1] l7 (G3 rfl) Wk t8 ?_;intro v6 w6 ho K4 r';obtain⟨a7,n7,q7,rfl,Ma⟩:=ho.var;have Gp:=I ho;have LA:D4 wr2 w6:=aj (C4.trans ZL) K4 (λj Z=>(HO.lt j Z).1);have hs6:=LA.size;clear ho K4 r';refine KL (OY _ LA) λr9=>?_;refine Im 5 λK hK=>?_;go_simp;refine hK.out _ _ (λ_=>OY.o _ (LA.trans ZL)) ?_;clear hK K
  try simp only[Act.put,sA,sB,sC]
  refine Im 6 λK hK=>?_;refine dz _ _ l7 (w+2) va vs l7 ((FF.a.ext LA).ext ZL) _ _ 1 l7 E5 rfl (by rw[P'.o];omega) t8 ?_;intro v7 w7 ho NM r';obtain⟨a8,n8,q8,rfl,OU⟩:=ho.var;refine Fn ho NM r' λKb Uv HR7=>?_;have Gu:=FF.QU (LA.trans ZL) NM;have Tm:=D5.G9 Gu;have cf7:=D5.Hv Gu;have ad4:e9 (y9 (w7.setCell ⟨g,0,none⟩ (FB a8 n8 q8)) (w+2) (FB al nl cl) (List.replicate (m-1) 1)):=bg (aaS.Mf (LA.trans ZL) FF.a NM) Gu FS;have Pk:D4 W w7:=aj ((C7.trans LA).trans ZL) NM (λj Z=>by rw[Fp.o];exact(FF.a.lt j Z).1);clear ho NM r' Gu;refine KL (eN Tm Pk) λr9=>?_;refine lp 7 ?_;refine Ql 8 ?_;refine cU k8 ?_ _;have KV:=I (FF.M8 (LA.trans ZL) (Gp.ext ZL) J0 Uv.o Kb.o HR7);have HOV8:=I (HOV.snoc aaS.o Gp);rw[HLE.o,show(List.range k).map (eD n)++[eD n k]=(List.range (k+1)).map (eD n)by rw[mr,rN];rfl]at KV;have MX:=I (Pk.setCell (p:=⟨g,0,none⟩) Oe (FB a8 n8 q8));have⟨W8,PT⟩:=j7 (w7.setCell ⟨g,0,none⟩ (FB a8 n8 q8));rw[<-PT]at KV MX ad4;go_upto_region 20 with rfl;rw[<-PT];clear PT Tm cf7 r9 C4 LA;have b1:=KV.c1;have bf:=KV.free;have hl8:=KV.lt;have hs8:w.heap.size+2<=W8.heap.size:=by rw[<-Fp.o];exact V2 MX.o
  go_wp2_with (first
   | (at_builtin;refine bK rfl _ _ rfl (w+2) vb _ rfl (KV.b.ext ZL) _ 1 _ [0] rfl (G3 j9) t8 t8 ?_;intro v9 w9 ho It r';have Mn:=I (KV.pushB ZL It ho r');have Gu:=KV.QT ZL It;have c09:=D5.G8 Gu;have UY:=D5.Hv Gu;have HLA9:e9 (y9 (w9.setCell ⟨g,1,none⟩ v9) (w+2) (FB al nl cl) (List.replicate (m-1) 1)):=bg (show y9 w9 (w+2) (FB al nl cl) (List.replicate (m-1) 1)from(ad4.ext ZL).keep (λj Z=>It.block j (C' (ad4.lt j Z).2 j9) (λe=>VQ.o j Z e.symm))) Gu FS;have HOF9:=I (show∀j,(FB al nl cl).ownBlock=some j->v9.ownBlock≠some j from λj Z e=>by rcases r' j e with h3|h3;exact VQ.o j Z h3;have:=(ad4.lt j Z).2;simp at h3;omega);have Pj:D4 W w9:=aj (D4.trans MX.o ZL) It (λj Z=>by rw[Fp.o];exact(KV.b.lt j Z).1);obtain⟨a9,n9,q9,rfl,Qe⟩:=ho.var;clear ho It r' Gu))
  have Nq:=I (Pj.setCell (p:=⟨g,1,none⟩) Oe (FB a9 n9 q9));refine Mx ?_;exact⟨k+1,_,_,_,I (l8 Q3.o),by go_num,I (by have h1:=Mn.o;rw[<-WR]at h1;exact h1),HLA9,HOF9,HOV8,Nq⟩
 have ac1:q=k:=l8 Q3.o;have hnk:¬(k:Int)<(q:Int):=O;have P':=I (show Lp vs=q by rw[FF.rows.len];simp;omega);rw[<-ac1]at FF;have t0:=FF.c0;have OY:=I λw' (h:D4 wr2 w')=>TX (h.o9 t0) (C7.trans h);have C4:=D4.drew wr2;clear ac1;go_upto_region 21 with rfl;refine cj (M:=[8]) (S:=λw'=>w'.cell? ⟨g,0,none⟩=some va/\D4 W w') k8 ?_;have r9:=OY.o _ C4;have⟨wd,G⟩:=j7 wr2.drew;rw[<-G]at C4 r9;rw[<-G];clear G;have Te:=C4.size;refine lp 0 ?_;refine ll 1 ?_;refine lp 2 ?_;refine Im 3 λK hK=>?_
 go_simp;refine hK.out _ _ (λ_=>OY.o _ (C4.trans ZL)) ?_;clear hK K
 try simp only[Act.put,sA,sB,sC]
 refine Im 4 λK hK=>?_;refine aO _ _ l7 (w+2) (FB al nl cl) _ l7 (aaS.ext (C4.trans ZL)) _ 1 _ [0] l7 (G3 rfl) t8 t8 ?_;intro v6 w6 ho K4 r';refine Fn ((FF.ext (C4.trans ZL)).adm (aaS.ext (C4.trans ZL)) K4 HOV.o VQ) (HOV.near (FF.ext (C4.trans ZL)).rows r') (Nj VQ.o (FF.ext (C4.trans ZL)).b r') λVY HOV6 HOF6=>?_;obtain⟨a7,n7,q7,rfl,Ma⟩:=ho.var;have Gp:=I ho;have NQ:D4 W w6:=aj ((C7.trans C4).trans ZL) K4 (λj Z=>by rw[Fp.o];exact(aaS.lt j Z).1);have hs6:=NQ.size;clear ho K4 r';refine KL (eN VY.c0 NQ) λr9=>?_;refine Im 5 λK hK=>?_;go_simp;refine hK.out _ _ (λ_=>eN (VY.ext ZL).c0 (NQ.trans ZL)) ?_;clear hK K
 try simp only[Act.put,sA,sB,sC]
 refine Im 6 λK hK=>?_;refine dz _ _ l7 (w+2) va vs l7 (VY.a.ext ZL) _ _ 1 l7 E5 rfl (by rw[P'.o];omega) (by simp;rw[Fp.o]at hs6;omega) ?_;intro v7 w7 ho NM r';have KV:=I ((VY.ext ZL).afw (Gp.ext ZL) HOV6.o HOF6.o NM ho);obtain⟨a8,n8,q8,rfl,OU⟩:=ho.var;have Gu:=VY.QU ZL NM;have Tm:=D5.G9 Gu;have cf7:=D5.Hv Gu;have Pk:D4 W w7:=aj (NQ.trans ZL) NM (λj Z=>by rw[Fp.o];exact(VY.a.lt j Z).1);clear ho NM r' Gu;refine KL (eN Tm Pk) λr9=>?_;refine lp 7 ?_;refine Ql 8 ?_;refine cU k8 ?_ _;have MX:=I (Pk.setCell (p:=⟨g,0,none⟩) Oe (FB a8 n8 q8));have⟨W8,PT⟩:=j7 (w7.setCell ⟨g,0,none⟩ (FB a8 n8 q8));rw[<-PT]at KV MX;go_upto_region 22 with rfl;rw[<-PT];clear PT Tm cf7 r9 C4 NQ Pk;have b1:=KV.c1;have bf:=KV.free;have hl8:=KV.lt;have hs8:w.heap.size+2<=W8.heap.size:=by rw[<-Fp.o];exact V2 MX.o
 have HA8:=I (show(List.range q).map (eD n)++[List.replicate (m-1) 1++[0]]=fe q n by unfold fe;rw[<-HMN.o,show m+1-2=m-1 by omega]);go_upto_region 23 with(first
  | (at_builtin;refine bK rfl _ _ rfl (w+2) vb _ rfl (KV.b.ext ZL) _ 1 _ [1] rfl (G3 j9) t8 t8 ?_;intro v9 w9 ho It r';have Mn:=I (KV.pushB ZL It ho r');have Gu:=KV.QT ZL It;have c09:=D5.G8 Gu;have UY:=D5.Hv Gu;have Pj:D4 W w9:=aj (D4.trans MX.o ZL) It (λj Z=>by rw[Fp.o];exact(KV.b.lt j Z).1);obtain⟨a9,n9,q9,rfl,Qe⟩:=ho.var;clear ho It r' Gu))
 have Nq:=I (Pj.setCell (p:=⟨g,1,none⟩) Oe (FB a9 n9 q9));have⟨W9,J6⟩:=j7 (w9.setCell ⟨g,1,none⟩ (FB a9 n9 q9));rw[<-J6]at Mn Nq;rw[<-J6];rw[HA8.o]at Mn;clear J6 c09 UY Pj b1 bf t0;have t0:=Mn.c0;have t1:=Mn.c1;have t2:=Mn.c2;have J3:=E6.o W9 Nq.o;have FH:=D5.G9 J3;have FL:=D5.G8 J3;have Hs:=D5.Hw J3;have JR:=D5.Hv J3;have Zw:∀j,w.heap.size+2<=j->(((W9.setCell ⟨w.heap.size+1,0,none⟩ (FB a8 n8 q8)).setCell ⟨w.heap.size+1,1,none⟩ (FB a9 n9 q9)).setCell ⟨w.heap.size+1,2,none⟩ (FB a6 n6 q6)).heap[j]?=W9.heap[j]?:=λj Ij=>by
  exact Wr
 have ahx:=I Zw;clear J3 Zw;go_wp2;refine GE (v:=.tuple #[JI a8 n8 q8 a9 n9 q9 a6 n6 q6,ato true]) (by simp[results,Hm,go_sem,FH,FL,Hs]) rfl ⟨⟨a8,n8,q8,a9,n9,q9,a6,n6,q6,rfl,λ_=>⟨?_,?_,?_⟩⟩,(((B4.trans Nq).store 0 O _).store 1 O _).store 2 O _⟩
 ·have h0:bZ W9 (w+2) (FB a8 n8 q8) (fe q n):=⟨_,Mn.a,Mn.rows⟩;exact bZ.Mg (h0.on _ λj h1 _=>ahx.o j h1)
 ·exact(Mn.b.on _ λj h1 _=>ahx.o j h1).ints
 exact(Mn.c.keep λj h1=>ahx.o j (Mn.c.lt j h1).1).rats
theorem P4{a b c d e:atY}(hb:w.heap[g]?=some (SH #[a,b,c,d,e] t (0,0))):
 w.cell? (IM g 0)=some a/\w.cell? (IM g 1)=some b/\w.cell? (IM g 2)=some c/\w.cell? (IM g 3)=some d/\w.cell? (IM g 4)=some e/\∀k,w.frozen? (IM g k)=false:=by
 refine⟨?_,?_,?_,?_,?_,λk=>fy w g k _ _ hb⟩<;>rw[UV w g _ _ _ _ hb]<;>rfl
theorem RM{x0 Q K H G:atY}(hb:W.heap[r]?=some (SH #[x0,Q,K,H,G] t (0,0)))(v0 v1 v2 v3 v4:atY):
 (((((W.setCell (IM r 0) v0).setCell (IM r 1) v1).setCell (IM r 2) v2).setCell (IM r 3) v3).setCell (IM r 4) v4).heap[r]?=some (SH #[v0,v1,v2,v3,v4] t (0,0)):=by
 have h1:=aM W r 0 _ t v0 hb;have h2:=aM _ r 1 _ t v1 h1;have h3:=aM _ r 2 _ t v2 h2;have h:=aM _ r 3 _ t v3 h3;have Z:=aM _ r 4 _ t v4 h;exact Z
theorem pP(G:D4 w W)(hr:w.heap.size<=r)(v0 v1 v2 v3 v4:atY):D4 w (((((W.setCell (IM r 0) v0).setCell (IM r 1) v1).setCell (IM r 2) v2).setCell (IM r 3) v3).setCell (IM r 4) v4) :=
 ((((G.store 0 hr v0).store 1 hr v1).store 2 hr v2).store 3 hr v3).store 4 hr v4
theorem Kr{wr w2:J}{nv H:Int}{vp v2 G:atY}{P P2:o3}(hb:wr.heap[g]?=some (SH #[ato true,U nv,U H,vp,G] 85 (0,0)))(ho:ZM wr base vp P)(hg:w1.grownBy w2 vp.ownBlock)(hx:D4 wr w1)(Z:ZM w2 base v2 P2):
 w2.heap[g]?=some (SH #[ato true,U nv,U H,vp,G] 85 (0,0))/\ZM (w2.setCell (IM g 3) v2) base v2 P2/\(w2.setCell (IM g 3) v2).heap[g]?=some (SH #[ato true,U nv,U H,v2,G] 85 (0,0)):=by
 have Q:=hx.blk hb;have TZ:=ho.ext hx;have K:w2.heap[g]?=some (SH #[ato true,U nv,U H,vp,G] 85 (0,0)):=vi hg Q (aq TZ Q FS);exact⟨K,bg Z K FS,aM w2 g 3 _ _ v2 K⟩
def jw(w:J)(base:Nat)(p:Int)(V:o7)(e:Ending):Prop:=∃(x y:Int) (pa:o6) (pn pc:Nat) (wa:o6) (wn wc:Nat),e=atn (.agg #[ato (KC p V),U x,U y,FB pa pn pc,FB wa wn wc]) /\
 (KC p V=true->(x,y)=D2 (jh p V).value/\ZM w base (FB pa pn pc) (Oy p V))
theorem jw.no{p:Int}(h:KC p V=false):jw w base p V (atn (.agg #[ato false,U 0,U 0,d9,d9])) :=
 ⟨0,0,none,0,0,none,0,0,by rw[h],λG=>by rw[h]at G;cases G⟩
def XS(h:σ:=by
 rw[hgo]at Gq;have La:=I (show KC p V=false by unfold KC;rw[hgo];rfl);clear hgo;go_in
 go_wp2_with rfl;rw[<-hW];refine Gq.mono ?_;rintro e w1 ⟨⟨la,Mu,My,lb,Ms,Mx,lc,Mr,Mw,rfl,_⟩,hx⟩;unfold JI;have⟨w2,hw2⟩:=j7 (w1.alloc (bT la Mu My lb Ms Mx lc Mr Mw));have X2:D4 W w2:=by rw[hw2];exact hx.trans ZL
 have⟨q0,q1,q2,q3,q4,qf⟩:=MP.o w2 X2;obtain⟨z0,z1,z2,z3,z4,_⟩:=GK.o w2 X2 (ato false) (U 0) (U 0) d9 (d9);have HZ:=I (Lz w2 X2 (ato false) (U 0) (U 0) d9 (d9));go_upto_region 2 with rfl;rw[<-hw2];clear hx hw2 hW;go_wp2;refine GE Tv rfl ⟨jw.no La.o,HZ⟩
 ):σ:=h
def U8(h:σ:=by
 have KD:(rs != 1)=true:=by simp[hs]
 have La:=I (show KC (q:Int) V=false by rw[HLO.o];exact RK hs);have X4':=X4.o;have⟨q0,q1,q2,q3,q4,qf⟩:=MP.o w4 X4';obtain⟨z0,z1,z2,z3,z4,_⟩:=GK.o w4 X4' (ato false) (U 0) (U 0) d9 (d9);have HZ:=I (Lz w4 X4' (ato false) (U 0) (U 0) d9 (d9));clear hs;go_wp2;refine GE Tv rfl ⟨jw.no La.o,HZ⟩
 ):σ:=h
theorem tD{p:Int}{cap:Nat}(h:d6 w a n cap V):
 Calls Tryz.prog 101 #[Id p a n cap] w λe w'=>jw w' w p V e/\D4 w w':=by
 have⟨W,hW⟩:=j7 ((w.alloc (SH #[U p,FB a n cap] 31)).alloc (SH #[ato false,U 0,U 0,d9,d9] 85));have Oa:W.heap.size=w.heap.size+2:=by rw[hW];simp
 have hX:D4 w W:=by rw[hW];exact ZL.trans ZL
 refine y5 (show W.heap[w.heap.size+1]?=some (SH #[ato false,U 0,U 0,d9,d9] 85 (0,0))by rw[hW];exact LE j9) (show W.cell? (IM w 0)=some (U p)by rw[hW];exact D4.o9 ZL j9) (show W.cell? (IM w 1)=some (FB a n cap)by rw[hW];exact D4.o9 ZL j9) (h.ext hX) hX h.hlen λE6 Kz K9 HI HX HVL=>?_;refine Op (EL (p:=p) HI) (λ(w':J) (hx:D4 W w') (v0 v1 v2 v3 v4:atY)=>P4 (RM ((hx.block _ O).trans E6) v0 v1 v2 v3 v4)) (λ(w':J) (hx:D4 W w') (v0 v1 v2 v3 v4:atY)=>pP (r:=w.heap.size+1) (HX.trans hx) (bq _) v0 v1 v2 v3 v4) (λ(w':J) (hx:D4 W w')=>P4 ((hx.block _ O).trans E6)) λGq GK Lz MP=>?_;cases hgo:ak p V&&decide (2<=p)
 ·have qq0:=@Zy;exact XS
 rw[hgo]at Gq;have⟨Ti,Qo⟩:=fg hgo;have Qo:=nR Qo;have HSE:=I (Ck Ti);rw[HVL.o]at HSE;have⟨r,FH⟩:=j7 (bH az (fe p.toNat n) (gm p.toNat) (dU p V));have GV:=I FH;have GD:=I (show jh p V=r by unfold jh;rw[HVL.o,<-FH]);have HLO:=I (show KC p V=decide (r.status=1)by unfold KC;rw[hgo,GD.o];rfl);obtain⟨q,Fw,I6,Lk,SI,_,Om⟩:=ap Ti;subst Fw;have JJ:2<=q:=O;clear FH;go_in
 go_wp2_with rfl;rw[<-hW];refine Gq.mono ?_;rintro e w1 ⟨⟨la,Mu,My,lb,Ms,Mx,lc,Mr,Mw,rfl,Qs⟩,hx⟩;unfold JI;have⟨w2,hw2⟩:=j7 (w1.alloc (bT la Mu My lb Ms Mx lc Mr Mw));have C9:D4 w1 w2:=by rw[hw2];exact ZL
 have X2:=I (hx.trans C9);have GG:=I (ma ((Qs rfl).ext C9));rw[<-HSE.o,<-GV.o]at GG;have PR:w2.heap[w1.heap.size]?=some (SH #[FB la Mu My,FB lb Ms Mx,FB lc Mr Mw] 124 (0,0)):=by rw[hw2];exact LE rfl
 have⟨t0,t1,t2⟩:=mc PR;go_upto_region 2 with rfl;rw[<-hw2];clear hw2 hW;go_wp2_with rfl;refine GG.mono ?_
 have Hx:=I (λ(hs:r.status=1)=>show Lp r.Y=q+1/\A5 r.value=true/\∀k,k<Lp r.Y->A5 (r.Y[k]?.getD (0,0))=true by
  have:=fD (bound:=az) (A:=fe (q:Int).toNat n) (B:=gm (q:Int).toNat) (C:=dU (q:Int) V) Rl;rw[<-GV.o]at this;refine⟨?_,this.2.2.2.2⟩;rw[this.2.2.2.1,eI];unfold gm;simp)
 rintro e w3 ⟨⟨xa,Z,xc,ya,yn,yc,ra,rn,rc,rfl,LV⟩,C0⟩;have⟨w4,Hr⟩:=j7 (w3.alloc (de r xa Z xc ya yn yc ra rn rc));have E4:D4 w3 w4:=by rw[Hr];exact ZL
 refine Fn ((X2.trans C0).trans E4) (LV.here.ext E4) (show w4.heap[w3.heap.size]?=some (de r xa Z xc ya yn yc ra rn rc)by rw[Hr];exact LE rfl) λX4 GS FG=>?_;obtain⟨rs,rX,rY,rr,⟨FR,Fz⟩,rp⟩:=r;unfold JA;go_upto_region 5 with rfl;rw[<-Hr];clear Hr;generalize w3.heap.size=b5 at FG⊢;have⟨l0,l1,l2,l3,l4,l5,l6,lf⟩:=FN FG.o
 try simp only at l0 l1 l2 l3 l4 l5 l6
 by_cases hs:rs=1
 ·subst hs;have⟨Oz,S',Lg⟩:=Hx.o rfl
  try simp only at Oz S' Lg
  have Ha:=aV S';refine Fn (λw'=>eZ FR Fz w' O O) Lg (show yn=q+1 by rw[<-Oz];exact GS.y.hlen.symm) λHNG HYV OQ=>?_;have hqy:q<yn:=l8 OQ.o;have hXX:=X4.o;have Wb:=hXX.size;have⟨nv,HNV⟩:=Ok (-FR);simp only[<-HNV.o]at HNG;have Ut:=I (λ(w':J) (hx:D4 w4 w')=>(⟨hx.o9 l1,hx.o9 l4,hx.o9 l5,hx⟩:w'.cell? (IM b5 1)=some (FB xa Z xc)/\w'.cell? (IM b5 4)=some (U FR)/\w'.cell? (IM b5 5)=some (U Fz)/\D4 w4 w'));have c0:=hXX.o9 Kz.o;clear Oz;go_upto_region 7 with rfl
  go_cut [6] (λv wx=>∃g,v=ats (some (IM g 0))/\e9 (wx.heap[g]?=some (SH #[ato true,U nv,U Fz,d9,FB xa Z xc] 85 (0,0)))/\e9 (w4.heap.size<=g)/\e9 (D4 w4 wx))
  case first =>
   have C4:=D4.drew w4;refine kp Ut C4 λr9=>?_;have⟨wd,G⟩:=j7 w4.drew;rw[<-G]at C4 r9;rw[<-G];clear G;refine tk 0 ?_;refine tk 1 ?_;refine tk 3 ?_;refine tk 4 ?_;refine TK (rs:=[2,6]) k8 j9 ?_;refine To (λK hK=>?_) ?_
   ·
    go_simp;refine i6 (HNG _) λw6 Jg=>?_;have C4:D4 w4 w6:=C4.trans Jg;go_wp2_with rfl;refine KO (Ut _ C4) λr9=>?_;refine tk 5 ?_;refine rd 6 λK hK=>?_;go_simp;refine hK.out _ _ ?_ (λr9=>?_)
    ·exact Ut.o _ (C4.trans ZL)
    try simp only[Act.put,sA,sB,sC]
    have⟨w7,Ie⟩:=j7 (w6.alloc (SH #[ato false,U 0,U 0,d9,d9] 85));have⟨g,K3⟩:=j7 w6.heap.size;have hb7:w7.heap[g]?=some (SH #[ato false,U 0,U 0,d9,d9] 85 (0,0)):=by rw[Ie,K3];exact LE rfl
    have Jk:D4 w4 w7:=by rw[Ie];exact C4.trans ZL
    have H:w4.heap.size<=g:=by rw[K3];exact C4.size
    rw[<-Ie]at r9;rw[<-Ie,<-K3];clear Ie K3;have⟨e0,e1,e2,e3,e4,ef⟩:=P4 hb7;refine rd 7 λK hK=>?_;go_simp;refine hK.out _ _ ?_ (λr9=>?_)
    ·exact Ut.o _ (pP Jk H _ _ _ _ _)
    try simp only[Act.put,sA,sB,sC]
    refine ST k8 ?_ _;have HZB:=I (RM hb7 (ato true) (U nv) (U Fz) d9 (FB xa Z xc));have HZX:=I (pP Jk H (ato true) (U nv) (U Fz) d9 (FB xa Z xc));go_wp2;go_meet;exact⟨g,rfl,HZB,I H,HZX⟩
   refine To (λK hK=>?_) R7
   
   go_simp;refine hK.out _ _ ?_ (λr9=>?_)
   ·exact Ut.o _ (C4.trans ZL)
   try simp only[Act.put,sA,sB,sC]
   have⟨w6,IL⟩:=j7 (wd.alloc (SH #[ato false,U 0,U 0,d9,d9] 85));have⟨g,K3⟩:=j7 wd.heap.size;have R3:w6.heap[g]?=some (SH #[ato false,U 0,U 0,d9,d9] 85 (0,0)):=by rw[IL,K3];exact LE rfl
   have Jg:D4 w4 w6:=by rw[IL];exact C4.trans ZL
   have H:w4.heap.size<=g:=by rw[K3];exact C4.size
   rw[<-IL]at r9;rw[<-IL,<-K3];clear IL K3;refine rd 2 λK hK=>?_;go_simp;refine i6 (HNG _) λw7 TM=>?_;have Jk:D4 w4 w7:=Jg.trans TM;have hb7:=TM.blk R3;go_wp2_with rfl;refine KO (Ut _ Jk) λr9=>?_;refine tk 5 ?_;have⟨e0,e1,e2,e3,e4,ef⟩:=P4 hb7;refine rd 7 λK hK=>?_;go_simp;refine hK.out _ _ ?_ (λr9=>?_)
   ·exact Ut.o _ (pP Jk H _ _ _ _ _)
   try simp only[Act.put,sA,sB,sC]
   refine ST k8 ?_ _;have HZB:=I (RM hb7 (ato true) (U nv) (U Fz) d9 (FB xa Z xc));have HZX:=I (pP Jk H (ato true) (U nv) (U Fz) d9 (FB xa Z xc));go_wp2;go_meet;exact⟨g,rfl,HZB,I H,HZX⟩
  obtain⟨g,rfl,Gj,HG4,XC⟩:=hcut;have c0c:=XC.o9 c0;go_wp2
  go_loopg [7] q (λgk ii wr=>∃(k:Nat) (vp:atY) (P:o3),e9 (gk+k=q)/\ii=U k/\e9 (P=(rY.take k).map D2/\Lp P=k)/\e9 (wr.heap[g]?=some (SH #[ato true,U nv,U Fz,vp,FB xa Z xc] 85 (0,0)))/\e9 (ZM wr w4 vp P)/\e9 (D4 w4 wr))
  ·exact⟨0,_,[],I O,rfl,I ⟨by simp,rfl⟩,Gj,I og,XC⟩
  rename Nat=>g1;rename J=>wr;obtain⟨k,vp,P,HK,rfl,Ka,Ga,NA,XR⟩:=hrel;have Fo:=(X4.trans XR).o9 Kz.o;have⟨e0,e1,e2,e3,e4,ef⟩:=P4 Ga.o;by_cases hlt:k<q
  ·have IG:=SW k q;have MI:=aE k;have hky:=SW k yn;have ac0:k<yn:=O;have⟨yb,yo,y1,y2,hye,Lg,MT,O9⟩:=(GS.y.ext XR).at ac0;subst hye;have hv:=HYV.o k (by rw[show rY.length=yn from GS.y.hlen];exact ac0);simp only at Lg;rw[Lg]at hv;have Ha:=aV hv;have HNY:=I (λw'=>eZ y1 y2 w' O O);have m2:=UV wr b5 2 _ _ _ ((XR.block _ (IO FG)).trans FG);have⟨ny,hny⟩:=j7 (-y1);simp only[<-hny]at HNY;have Nd:W.heap.size<=wr.heap.size:=(X4.trans XR).size;have m2':wr.cell? (IM b5 2)=some (FB (some (IM yb yo)) yn yc):=m2;have VK:=I Lg;have M0:=I (show P++[(ny,y2)]=(rY.take (k+1)).map D2 by
    have GF:k<Lp rY:=(show Lp rY=yn from GS.y.hlen)▸ac0;rw[tn GF,rN,<-Ka.1];rw[In GF,NE]at Lg;rw[Lg,hny];rfl)
   clear hny;have HKR:=I (λ(w':J) (hx:D4 wr w')=>(⟨hx.o9 e3,hx.o9 m2',hx.o9 MT,hx.o9 O9,XR.trans hx⟩:w'.cell? (IM g 3)=some vp/\w'.cell? (IM b5 2)=some (FB (some (IM yb yo)) yn yc)/\w'.cell? (IM yb (yo+k*2))=some (U y1)/\w'.cell? (IM yb (yo+k*2+1))=some (U y2)/\D4 w4 w'));have OV:=I (show∀w',D4 w4 w'->w'.cell? (IM b5 2)=some (FB (some (IM yb yo)) yn yc)from λw' hx=>UV w' b5 2 _ _ _ ((hx.block _ (IO FG)).trans FG));have HYC:=I (show∀w',D4 w4 w'->w'.cell? (IM yb (yo+k*2))=some (U y1)/\w'.cell? (IM yb (yo+k*2+1))=some (U y2)from λw' hx=>by
    have⟨u1,u2,u3,u4,hue,Ob,LP,Tc⟩:=(GS.y.ext hx).at ac0;obtain⟨rfl,rfl⟩:=er hue;clear hue;rw[VK.o]at Ob;simp only[sj]at Ob;obtain⟨rfl,rfl⟩:=Ob;exact⟨LP,Tc⟩)
   have C4:=D4.drew wr;have hs4r:=XR.size;go_upto_region 11 with rfl;refine cj (M:=[11]) (S:=λw'=>w'.cell? (IM g 3)=some vp/\w'.cell? (IM b5 2)=some (FB (some (IM yb yo)) yn yc)/\w'.cell? (IM yb (yo+k*2))=some (U y1)/\w'.cell? (IM yb (yo+k*2+1))=some (U y2)/\D4 w4 w') k8 ?_;have r9:=HKR.o _ C4;have⟨wd,G⟩:=j7 wr.drew;rw[<-G]at C4 r9;rw[<-G];clear G;have Te:=C4.size;refine Lj ⟨?_⟩;refine Im 7 λK hK=>?_
   go_simp;go_at_call 180;refine i6 (HNY _) λw8 UJ=>?_;have C4:D4 wr w8:=C4.trans UJ;have hs8:=C4.size;go_wp2_with rfl;refine KL (HKR _ C4) λr9=>?_
   refine Im 8 λK hK=>?_;go_simp;refine hK.out _ _ (λ_=>HKR.o _ (C4.trans ZL)) ?_
   try simp only[Act.put,sA,sB,sC]
   refine Im 9 λK hK=>?_;refine dw _ _ l7 w4 vp _ l7 ((NA.ext C4).ext ZL) _ 1 _ [(ny,y2)] l7 (z6 rfl) (by rw[Ka.2];omega) t8 ?_;intro v9 w9 ho It r';have⟨Gu,hob,GY⟩:=Kr Ga.o NA.o It (C4.trans ZL) ho;have Pj:D4 w4 w9:=aj ((XR.trans C4).trans ZL) It (λj hj=>(NA.lt j hj).1);have c9:=(P4 Gu).2.2.2.1;have UY:=(P4 Gu).2.2.2.2.2;obtain⟨a9,n9,q9,rfl,Qe⟩:=ho.var;have Il:=I hob;have N6:=I GY;refine KL (eN c9 (eN (OV _ Pj) (eN (HYC _ Pj).1 (eN (HYC _ Pj).2 Pj)))) λr9=>?_;refine lp 10 ?_;refine Ql 11 ?_;refine cU k8 ?_ _;have Nq:=I (Pj.store (b:=g) 3 HG4.o (FB a9 n9 q9));go_wp2_with rfl;refine gy ?_;exact⟨k+1,_,_,I (l8 HK.o),by go_num,I ⟨M0,by rw[ar,Ka.2];rfl⟩,N6,Il,Nq⟩
  have IG:¬(k:Int)<(q:Int):=O;obtain⟨pa,pn,pc,rfl,M0⟩:=NA.var;have XW:=X4.trans XR.o;have⟨q0,q1,q2,q3,q4,qf⟩:=MP.o wr XW;obtain⟨z0,z1,z2,z3,z4,_⟩:=GK.o wr XW (ato true) (U nv) (U Fz) (FB pa pn pc) (FB xa Z xc);have HZ:=I (Lz wr XW (ato true) (U nv) (U Fz) (FB pa pn pc) (FB xa Z xc));have Vy:k=q:=l8 HK.o;have HPW:=I (show ZM (((((wr.setCell (IM (w+1) 0) (ato true)).setCell (IM (w+1) 1) (U nv)).setCell (IM (w+1) 2) (U Fz)).setCell (IM (w+1) 3) (FB pa pn pc)).setCell (IM (w+1) 4) (FB xa Z xc)) w (FB pa pn pc) (Oy (q:Int) V)by
   have e:Oy (q:Int) V=P:=by unfold Oy;rw[GD.o,Ka.1,Vy];rfl
   rw[e];have Oc:=HX.size;have Wb:=X4.size;exact(NA.keep λb hb=>by
    have:=(NA.lt b hb).1;rw[If _ _ _ _ t8,If _ _ _ _ t8,If _ _ _ _ t8,If _ _ _ _ t8,If _ _ _ _ t8]).mono O)
  go_wp2;refine GE (v:=.agg #[ato true,U nv,U Fz,FB pa pn pc,FB xa Z xc]) (by simp[results,Zy,go_sem,z0,z1,z2,z3,z4]) rfl ⟨⟨_,_,_,_,_,_,_,_,by rw[HLO.o];rfl,λ_=>⟨by rw[GD.o,HNV.o];rfl,HPW⟩⟩,HZ⟩
 have qq0:=@Zy;exact U8
def iJ(w:J)(base:Nat)(e:Ending)(r:L5):Prop :=
 ∃pa pn pc sa sn sc,e=atn (.agg #[ato r.ok,FB pa pn pc,FB sa sn sc,U r.rounds])/\ZM w base (FB pa pn pc) r.pt/\A9 I8 137 w base (FB sa sn sc) r.st
theorem iJ.no(w:J)(base:Nat):iJ w base (atn (.agg #[ato false,d9,d9,U 0])) L5.no :=
 ⟨Option.none,0,0,Option.none,0,0,rfl,og,A9.nil _ _ _ _⟩
theorem IT{a b c d:atY}(hb:w.heap[g]?=some (SH #[a,b,c,d] t (0,0))):
 w.cell? (IM g 0)=some a/\w.cell? (IM g 1)=some b/\w.cell? (IM g 2)=some c/\w.cell? (IM g 3)=some d/\∀k,w.frozen? (IM g k)=false:=by
 refine⟨?_,?_,?_,?_,λk=>fy w g k _ _ hb⟩<;>rw[UV w g _ _ _ _ hb]<;>rfl
theorem ZO{x0 Q K H:atY}(hb:W.heap[r]?=some (SH #[x0,Q,K,H] t (0,0)))(v0 v1 v2 v3:atY):
 ((((W.setCell (IM r 0) v0).setCell (IM r 1) v1).setCell (IM r 2) v2).setCell (IM r 3) v3).heap[r]?=some (SH #[v0,v1,v2,v3] t (0,0)) /\
   ∀b,b≠r->((((W.setCell (IM r 0) v0).setCell (IM r 1) v1).setCell (IM r 2) v2).setCell (IM r 3) v3).heap[b]?=W.heap[b]?:=by
 have h1:=aM W r 0 _ t v0 hb;have h2:=aM _ r 1 _ t v1 h1;have h:=aM _ r 2 _ t v2 h2;have Z:=aM _ r 3 _ t v3 h;exact⟨Z,λb G=>(If _ _ _ _ G).trans ((If _ _ _ _ G).trans ((If _ _ _ _ G).trans (If _ _ _ _ G)))⟩
theorem Ps(G:D4 w W)(hr:w.heap.size<=r)(v0 v1 v2 v3:atY):D4 w ((((W.setCell (IM r 0) v0).setCell (IM r 1) v1).setCell (IM r 2) v2).setCell (IM r 3) v3) :=
 (((G.store 0 hr v0).store 1 hr v1).store 2 hr v2).store 3 hr v3
structure GC(W wr:J)(B:Nat)(vp vs vf:atY)(pt:o3)(L:l9)(fx:o7)(k:Nat):Prop where
 box:wr.heap[B]?=some (SH #[ato true,vp,vs,U k] 89 (0,0))
 pt:ZM wr (B+1) vp pt
 st:A9 I8 137 wr (B+1) vs L
 fx:y9 wr (B+1) vf fx
 ext:D4 W wr
 lo:W.heap.size<=B
section
variable{W wr w':J}{B:Nat}{vp vs vf:atY}{pt:o3}{L:l9}{fx:o7}{k:Nat}
theorem GC.grow(h:GC W wr B vp vs vf pt L fx k)(hx:D4 wr w'):GC W w' B vp vs vf pt L fx k:=⟨hx.blk h.box,h.pt.ext hx,h.st.ext hx,h.fx.ext hx,h.ext.trans hx,h.lo⟩
theorem GC.lt(h:GC W wr B vp vs vf pt L fx k):B<wr.heap.size:=IO h.box
theorem GC.off{v:atY}(h:∀k,v.ownBlock=some k->B+1<=k/\k<wr.heap.size)(j:Nat)(u:atY):∀k,v.ownBlock=some k->(wr.setCell (IM B j) u).heap[k]?=wr.heap[k]?:=λk G=>If _ _ _ _ (by have:=(h k G).1;show k≠B;omega)
theorem GC.aft(h:GC W wr B vp vs vf pt L fx k){WM:atY}{pt':o3}(G:ZM wr (B+1) WM pt'):GC W (wr.setCell (IM B 1) WM) B WM vs vf pt' L fx k :=
 ⟨aM wr B 1 _ _ _ h.box,G.keep (GC.off G.lt 1 _),h.st.keep (GC.off h.st.lt 1 _),h.fx.keep (GC.off h.fx.lt 1 _),h.ext.store 1 h.lo _,h.lo⟩
theorem GC.setK(h:GC W wr B vp vs vf pt L fx k){k':Nat}{i:Int}(hi:i=(k':Int)):GC W (wr.setCell (IM B 3) (U i)) B vp vs vf pt L fx k':=by
 subst hi;exact⟨aM wr B 3 _ _ _ h.box,h.pt.keep (GC.off h.pt.lt 3 _),h.st.keep (GC.off h.st.lt 3 _),h.fx.keep (GC.off h.fx.lt 3 _),h.ext.store 3 h.lo _,h.lo⟩
theorem GC.aeV(h:GC W wr B vp vs vf pt L fx k){w1:J}(hx:D4 wr w1){G:atY}{L':l9}(hg:w1.grownBy w' vs.ownBlock)(ho:A9 I8 137 w' (B+1) G L'):GC W (w'.setCell (IM B 2) G) B vp G vf pt L' fx k:=by
 have hb:=(hg.block B (IO (hx.blk h.box)) (λe=>by have:=(h.st.lt B e.symm).1;omega)).trans (hx.blk h.box);have K:ZM w' (B+1) vp pt:=cz (h.pt.ext hx) (h.st.ext hx) FS hg;have H:y9 w' (B+1) vf fx:=cz (h.fx.ext hx) (h.st.ext hx) FS hg;exact⟨aM w' B 2 _ _ _ hb,K.keep (GC.off K.lt 2 _),ho.keep (GC.off ho.lt 2 _),H.keep (GC.off H.lt 2 _),((h.ext.trans hx).grown hg (λj Q=>by have:=(h.st.lt j Q).1;have:=h.lo;omega)).store 2 h.lo _,h.lo⟩
theorem GC.ak4(h:GC W wr B vp vs vf pt L fx k){w1:J}(hx:D4 wr w1){WM:atY}{pt':o3}(hg:w1.grownBy w' vp.ownBlock)(ho:ZM w' (B+1) WM pt'):GC W (w'.setCell (IM B 1) WM) B WM vs vf pt' L fx k:=by
 have hb:=(hg.block B (IO (hx.blk h.box)) (λe=>by have:=(h.pt.lt B e.symm).1;omega)).trans (hx.blk h.box);have H:A9 I8 137 w' (B+1) vs L:=cz (h.st.ext hx) (h.pt.ext hx) FS hg;have G:y9 w' (B+1) vf fx:=cz (h.fx.ext hx) (h.pt.ext hx) FS hg;exact⟨aM w' B 1 _ _ _ hb,ho.keep (GC.off ho.lt 1 _),H.keep (GC.off H.lt 1 _),G.keep (GC.off G.lt 1 _),((h.ext.trans hx).grown hg (λj K=>by have:=(h.pt.lt j K).1;have:=h.lo;omega)).store 1 h.lo _,h.lo⟩
theorem GC.ak5(h:GC W wr B vp vs vf pt L fx k){w1:J}(hx:D4 wr w1){G:atY}{H:o7}(hg:w1.grownBy w' vf.ownBlock)(ho:y9 w' (B+1) G H):GC W w' B vp vs G pt L H k:=by
 have hb:=(hg.block B (IO (hx.blk h.box)) (λe=>by have:=(h.fx.lt B e.symm).1;omega)).trans (hx.blk h.box);have Z:ZM w' (B+1) vp pt:=cz (h.pt.ext hx) (h.fx.ext hx) FS hg;have Q:A9 I8 137 w' (B+1) vs L:=cz (h.st.ext hx) (h.fx.ext hx) FS hg;exact⟨hb,Z,Q,ho,(h.ext.trans hx).grown hg (λj K=>by have:=(h.fx.lt j K).1;have:=h.lo;omega),h.lo⟩
end
structure IV(lo:Nat)(w w':J):Prop where
 size:w.heap.size<=w'.heap.size
 block:∀k,lo<=k->k<w.heap.size->w'.heap[k]?=w.heap[k]?
def EE(lo hi:Nat)(v:atY):Prop:=∀k,v.ownBlock=some k->k<lo∨hi<=k
theorem EE.of{lo hi:Nat}(h:∀k,v.ownBlock=some k->base<=k/\k<w.heap.size)(hl:w.heap.size<=lo):EE lo hi v:=λk G=>uf (l8 ((h k G).2))
theorem EE.nil(lo hi n c:Nat):EE lo hi (FB none n c):=λk G=>by cases G
theorem EE.near{lo hi:Nat}{G:atY}(h:EE lo hi v)(K:Jv w v G)(hs:hi<=w.heap.size):EE lo hi G:=λk Q=>by
 rcases K k Q with H|H
 ·exact h k H
 exact Rf O
section
variable{lo:Nat}{w w1 w2:J}
theorem IV.refl(lo:Nat)(w:J):IV lo w w:=⟨m9 _,λ_ _ _=>rfl⟩
theorem IV.ext(h:IV lo w w1)(hx:D4 w1 w2):IV lo w w2:=⟨bR h.size hx.size,λk H G=>(hx.block k (C' G h.size)).trans (h.block k H G)⟩
theorem IV.grown(h:IV lo w w1){v:atY}(hg:w1.grownBy w2 v.ownBlock)(ho:EE lo w v):IV lo w w2:=⟨bR h.size hg.size,λk H G=>(hg.block k (C' G h.size) (λe=>by have:=ho k e.symm;omega)).trans (h.block k H G)⟩
theorem IV.set(h:IV lo w w1){B j:Nat}(hB:B<lo)(v:atY):IV lo w (w1.setCell (IM B j) v):=⟨by rw[World.size_setCell];exact h.size,λk H G=>(If _ _ _ _ (by show k≠B;omega)).trans (h.block k H G)⟩
theorem IV.on(h:IV lo w w1){P:J->Prop}(ho:On lo w P):On lo w1 P:=ho.keep h.size h.block
theorem IV.blk(h:IV lo w w1){g:Nat}{o:Obj}(hg:lo<=g)(hb:w.heap[g]?=some o):w1.heap[g]?=some o:=(h.block g hg (IO hb)).trans hb
theorem IV.ints(h:IV lo w w1){base:Nat}{v:atY}{l:o7}(hb:lo<=base)(ho:y9 w base v l):y9 w1 base v l:=ho.keep λk G=>h.block k (l8 ((ho.lt k G).1)) (ho.lt k G).2
end
theorem rV.lpc{e:Ending}{A:o4}{B:o7}{C:o3}{ok:Bool}(h:rV w base e A B C ok):
 ∃a G ca b nb cb c nc cc,e=atn (.tuple #[JI a G ca b nb cb c nc cc,ato ok])/\L6 w a G ca b nb cb c nc cc A B C:=by
 obtain⟨va,vb,vc,vs,rfl,Q,Z,K,H,h5⟩:=h;obtain⟨a,G,ca,rfl,_⟩:=Q.var;obtain⟨b,nb,cb,rfl,_⟩:=K.var;obtain⟨c,nc,cc,rfl,_⟩:=H.var;exact⟨_,_,_,_,_,_,_,_,_,rfl,(show bZ w base (FB a G ca) A from⟨vs,Q,Z⟩).Mg,K.ints,H.rats⟩
theorem A9.SL{cap:Nat}{L:l9}(h:A9 I8 137 w base (FB a n cap) L):IF w a n cap L:=h.JG.SL
theorem Ar(x:Int)(P:l9)(t:Int×Int×Int):(x::P.map λf=>f.1)++[t.1]=x::(P++[t]).map λf=>f.1:=by simp
theorem Z1{V:o7}{L:l9}{s:Int}(hs:s<=1000)(h:∀f∈L,f.1<=1000):∀k:Nat,(s::L.map (·.1))[k]?.getD 0<=9223372036854775807:=by
 intro k;by_cases G:k<Lp (s::L.map (·.1))
 ·rw[In G,NE];have hm:=cP G;rcases OI.1 hm with e|e
  ·rw[e];omega
  have⟨f,H,K⟩:=xl.1 e;rw[<-K];have:=h f H;omega
 rw[mq O];decide
end
section
variable{V:o7}{L:l9}{n:Nat}
theorem y9.ai5(w:J)(base:Nat)(x:Int)(hb:base<=w.heap.size):y9 (w.alloc (SH #[U x] 3)) base (GT w 1 1) [x] :=
 nr w #[U x] 1 hb (by simp[maxLen]) rfl
theorem Lt{p:Int}(G:Lp V=n):ft p V L=decide (kz p (((n:Int)-1)::L.map λf=>f.1)=p):=by
 unfold ft;rw[G,Ex]
theorem EH{a b:Bool}(h:a=b):atn (ato a)=atn (ato b):=by rw[h]
def Rh(h:σ:=by
 rw[HJ.o]at Gp;refine dk ?_;exact⟨k+1,_,_,_,I (l8 HK.o),rfl,by go_num,Gp,Hg⟩
 ):σ:=h
theorem EP{w:J}{p:Int}{a:o6}{cap:Nat}(hn:Lp V=n)(IU:n<=1000){fa:o6}{H Km:Nat}(h:IF w fa H Km L)(hfn:H<=1000000)(hL:∀f∈L,f.1<=1000):
 f9 183 #[Id p a n cap,FB fa H Km] w (ato (ft p V L)):=by
 have⟨W,Z⟩:=j7 (w.alloc (SH #[U p,FB a n cap] 31));refine Op (show D4 w W by rw[Z];exact ZL) (show W.heap.size=w.heap.size+1 by rw[Z];simp) (show W.cell? (IM w 0)=some (U p)by rw[Z];simp) (show W.cell? (IM w 1)=some (FB a n cap)by rw[Z];simp) λHX Fp Kz K9=>?_;refine Fn (h.ext HX) h.hlen hL λHF IP Hj=>?_;have Q':=dc ((n:Int)-1);have HD:=I (Lt (p:=p) (L:=L) hn);have SS:e9 (y9 (W.alloc (SH #[U ((n:Int)-1)] 3)) W (GT W 1 1) (((n:Int)-1)::(L.take 0).map λf=>f.1)):=y9.ai5 _ _ _ (m9 _);unfold f9;go_in
 go_upto_region 1 with rfl;rw[<-Z];have e0:=Kz.o;have e1:=K9.o;rw[Fp.o]at SS;clear Z;go_wp2
 go_loopg [5,6] H (λgk ff ii wr=>∃(k:Nat) (aF:o6) (nF cF:Nat),e9 (gk+k=H)/\ff=FB aF nF cF/\ii=U k/\e9 (y9 wr (w+1) (FB aF nF cF) (((n:Int)-1)::(L.take k).map λf=>f.1))/\e9 (D4 W wr))
 ·exact⟨0,_,_,_,I O,by rw[Fp.o],rfl,SS,I ZL⟩
 obtain⟨k,aF,nF,cF,HK,rfl,rfl,HO,IX⟩:=hrel;have hsz:=IX.size;rw[Fp.o]at hsz;by_cases G:k<H
 ·obtain⟨fb,PV,hfe,hfx,ZE⟩:∃b off,fa=some (IM b off)/\L[k]?=some (L[k]?.getD (0,0,0))/\wr.cell? (IM b (off+k*3))=some (U (L[k]?.getD (0,0,0)).1):=by
   have⟨b,off,e,hc⟩:=(HF.ext IX).cell k G;have GF:k<Lp L:=by rw[IP.o];exact G
   exact⟨b,off,e,by rw[In GF];rfl,(hc k G).1⟩
  subst hfe;have HJ:=I (show(((n:Int)-1)::(L.take k).map λf=>f.1)++[(L[k]?.getD (0,0,0)).1]=((n:Int)-1)::(L.take (k+1)).map λf=>f.1 by
   rw[Ar,<-fX hfx])
  have⟨s,hs⟩:=j7 ((L[k]?.getD (0,0,0)).1);rw[<-hs]at ZE HJ;have Lw:=I (show(((n:Int)-1)::(L.take k).map λf=>f.1).length<=1000001 by rw[mg,b7,jt];omega);clear hs
  go_wp2_with (first
   | (at_builtin;refine bK rfl _ _ rfl (w+1) (FB aF nF cF) _ rfl (HO.ext ZL) _ 1 _ [s] rfl (G3 j9) (l8 Lw.o) t8 ?_;intro v2 w2 ho hg r';have Hg:=I ((IX.trans ZL).grown hg (λj hj=>by rw[Fp.o];exact(HO.lt j hj).1));obtain⟨a2,n2,c2,rfl,Jb⟩:=ho.var;have Gp:=I ho))
  exact Rh
 have r7:k=H:=l8 HK.o;have Wx:e9 (L.take k=L):=aP (by rw[IP.o];omega);rw[Wx.o]at HO;have hnF:nF<=1000001:=by
  have h1:=HO.ints.hlen;simp only[mg,b7]at h1;have:=IP.o;omega
 have Wy:=I (λ(w':J) (hx:D4 wr w')=>Xv (n:=p) (HO.ext hx).ints (Z1 (V:=V) O Hj) O);generalize kz p (((n:Int)-1)::L.map λf=>f.1)=rk at Wy HD;have c0:=IX.o9 Kz.o;have WE:=I (show(rk == p)=ft p V L by rw[HD.o];rfl);go_wp2_with rfl;have hk:=D4.drew wr;refine k6 (S:=(λw'=>w'.cell? (IM w 0)=some (U p))) k8 ?_ (λr9=>?_)
 ·exact hk.o9 c0
 refine ks ⟨?_⟩;refine tk 4 ?_;refine tk 5 ?_;refine rd 3 λK hK=>?_;go_simp
 (go_at_call 263;refine i6 (Wy _ hk) λw3 C0=>?_;have hk:=hk.trans C0)
 go_wp2_with rfl;refine KO (hk.o9 c0) λr9=>?_;refine tk 6 ?_;refine tk 7 ?_;refine ST k8 ?_ _;have HZ:=I ((HX.trans IX).trans hk);go_wp2;go_ret;exact⟨EH WE.o,HZ⟩
theorem Eh{p:Int}(h:(ak p V&&p == 1)=false):LM p V (Lp (GM V [])+1) [] 0=JX p V:=by
 unfold JX;cases hg:ak p V
 ·rw[f8 j9];exact uw (λhc=>by have:=(kE hc.1).1;rw[hg]at this;cases this)
 rw[i7 rfl];rw[hg,wq]at h;rw[f8 ZN]
theorem Eg{p:Int}{f k:Nat}(h:GA p V L=true)(hs:(cY p.toNat V L).status=1):
 LM p V (f+1) L k=if ft p V (eu V L (cY p.toNat V L))=true then⟨true,NP p.toNat (cY p.toNat V L),eu V L (cY p.toNat V L),k+1⟩ else LM p V f (eu V L (cY p.toNat V L)) (k+1):=by
 conv=>lhs;unfold LM
 rw[i7 ⟨h,hs⟩]
theorem ZM.ai6(w:J)(base:Nat)(x y:Int)(hb:base<=w.heap.size):ZM (w.alloc (SH #[U x,U y] 80)) base (GT w 1 1) [(x,y)] :=
 ⟨by simp[GW],.inr ⟨w.heap.size,1,_,rfl,hb,nE w _,m9 _,by decide,rfl,by simp[GW]⟩⟩
def U7(h:σ:=by
 go_wp2;refine GE (v:=.agg #[ato false,d9,d9,U 0]) (by simp[results,qq0,go_sem,z0,z1,z2,z3]) rfl ⟨by rw[Jn.o];exact iJ.no _ _,HZ⟩
 ):σ:=h
def PQ(h:σ:=by
 have h1:(GM V L).length<=V.length-2:=eJ L (V.length-2);have h2:=HVL.o;have h3:=HM.o;omega
 ):σ:=h
theorem tE{w:J}{p:Int}{a:o6}{cap:Nat}(h:d6 w a n cap V):
 Calls Tryz.prog 102 #[Id p a n cap] w λe w'=>iJ w' w e (JX p V)/\D4 w w':=by
 have⟨W,hW⟩:=j7 ((w.alloc (SH #[U p,FB a n cap] 31)).alloc (SH #[ato false,d9,d9,U 0] 89));have Oa:W.heap.size=w.heap.size+2:=by rw[hW];simp
 have hX:D4 w W:=by rw[hW];exact ZL.trans ZL
 refine y5 (show W.heap[w.heap.size+1]?=some (SH #[ato false,d9,d9,U 0] 89 (0,0))by rw[hW];exact LE j9) (show W.cell? (IM w 0)=some (U p)by rw[hW];exact D4.o9 ZL j9) (show W.cell? (IM w 1)=some (FB a n cap)by rw[hW];exact D4.o9 ZL j9) (h.ext hX) hX h.hlen λE6 Kz K9 HI HX HVL=>?_;have⟨hcapn,hcapm⟩:=h.ath;refine Op (λ(w':J) (hx:D4 W w') (v0 v1 v2 v3:atY)=>IT (ZO ((hx.block _ O).trans E6) v0 v1 v2 v3).1) (λ(w':J) (hx:D4 W w') (v0 v1 v2 v3:atY)=>Ps (w:=w) (r:=w.heap.size+1) (HX.trans hx) (bq _) v0 v1 v2 v3) (λ(w':J) (hx:D4 W w') (v0 v1 v2 v3:atY)=>(ZO ((hx.block (w+1) O).trans E6) v0 v1 v2 v3).2) (λ(w':J) (hx:D4 W w')=>IT ((hx.block _ O).trans E6)) λGK Lz aaY MP=>?_;have⟨B,hB⟩:=j7 (w.heap.size+2);have⟨w1,Jl⟩:=j7 (W.alloc (SH #[ato true,d9,d9,U 0] 89));have X1:=I (show D4 W w1 by rw[Jl];exact ZL)
 have HO1:=I (show GC W w1 B d9 (d9) d9 [] [] [] 0 from
  ⟨by rw[Jl];exact LE O,og,A9.nil _ _ _ _,T9 _ _ _ _,X1,by omega⟩)
 have Sd:=I (bY (p:=p) (HI.ext X1));have⟨gb,JC⟩:=j7 (ak p V);rw[<-JC]at Sd;have Gj:=I JC;have Wm:W.heap.size<=B:=O;have⟨o,HOO⟩:=Ok (JX p V);rw[<-HOO.o];clear h hX JC;go_in
 go_upto_region 2 with rfl;rw[<-hW,<-Jl,show w.heap.size+1+1=B from hB.symm];clear hW Jl hB
 go_cut [17] (λs17 wx=>s17=ato (gb&&p == 1)/\e9 (D4 w1 wx))
 case first =>
  have c0:=X1.o9 Kz.o;have c1:=X1.o9 K9.o;cases gb
  ·go_wp2_with rfl;refine qc Sd λwx JT=>?_;go_wp2;go_meet;exact⟨rfl,JT⟩
  go_wp2_with rfl;refine qc Sd λwx hx=>?_;have JT:=I hx;have c0:=hx.o9 c0;have c1:=hx.o9 c1;go_wp2;go_meet;exact⟨rfl,JT⟩
 obtain⟨rfl,LF⟩:=hcut;have Ns:=I (HO1.grow LF);have⟨bb,Hy⟩:=Ok ((gb&&p == 1));rw[<-Hy.o];generalize wc=w2 at Ns LF⊢;cases bb
 ·have HN:=I (show LM p V (Lp (GM V [])+1) [] 0=o by rw[HOO.o];exact Eh (by rw[<-Gj.o];exact Hy.symm));go_wp2
  go_loopg [] (Lp (GM V [])+1) (λgk wr=>∃(k:Nat) (L:l9) (pt:o3) (vp vs:atY),e9 (gk+k=Lp (GM V [])+1)/\e9 (GC W wr B vp vs d9 pt L [] k)/\e9 (Lp (GM V L)+1<=gk)/\e9 (∀f∈L,f.1<=1000)/\e9 (Lp L<=32*k)/\e9 (k<=40)/\e9 (LM p V gk L k=o))
  ·exact⟨0,[],[],_,_,I O,Ns,I (m9 _),I (λf hf=>by cases hf),I j9,I O,HN⟩
  rename Nat=>g1;rename J=>A1;obtain⟨k,L,pt,vp,vs,HK,HO,HFU,Hj,Gq,Hk,Uo⟩:=hrel;obtain⟨aS,nS,cS,rfl,HNS⟩:=HO.st.var;have hk40:=Hk.o;have hnS:nS<=1300:=by rw[<-HNS.o];have:=Gq.o;omega
  have⟨b0,b1,b2,b3,bf⟩:=IT HO.box;have e0:=HO.ext.o9 Kz.o;have e1:=HO.ext.o9 K9.o;have Gc:=I (EO (p:=p) (HI.ext HO.ext) HO.st.SL O);have⟨ok,Ho⟩:=Ok (GA p V L);rw[<-Ho.o]at Gc;go_wp2_with rfl;refine Gc.mono ?_;rintro e w4 ⟨Vu,E4⟩;obtain⟨la,Mu,My,lb,Ms,Mx,lc,Mr,Mw,rfl,Qs⟩:=Vu.lpc;unfold JI;have⟨w5,Gz⟩:=j7 (w4.alloc (bT la Mu My lb Ms Mx lc Mr Mw));have F':D4 w4 w5:=by rw[Gz];exact ZL
  have K5:=I (E4.trans F');have X5:=I (HO.ext.trans K5);have Ul:=ma (Qs.ext F');have⟨r,K8⟩:=Ok (fh (QG p V L) (QF p V L) (QE p V L));rw[<-K8.o]at Ul;have GG:=I Ul;have t0:=aw (show w5.heap[w4.heap.size]?=some (SH #[FB la Mu My,FB lb Ms Mx,FB lc Mr Mw] 124 (0,0))by rw[Gz];exact LE rfl);have t1:=aJ (show w5.heap[w4.heap.size]?=some (SH #[FB la Mu My,FB lb Ms Mx,FB lc Mr Mw] 124 (0,0))by rw[Gz];exact LE rfl);have t2:=aK (show w5.heap[w4.heap.size]?=some (SH #[FB la Mu My,FB lb Ms Mx,FB lc Mr Mw] 124 (0,0))by rw[Gz];exact LE rfl);have Lt:=I K5.size;go_upto_region 6 with rfl;rw[<-Gz];clear Ul Gz F' E4 Qs Vu b0 b1 b2 b3 bf e0 e1;go_wp2_with rfl;refine GG.mono ?_;rintro e w6 ⟨⟨xa,xn,xc,ya,yn,yc,ra,rn,rc,rfl,LV⟩,Jg⟩;have⟨w7,Ie⟩:=j7 (w6.alloc (de r xa xn xc ya yn yc ra rn rc));have Jk:D4 w6 w7:=by rw[Ie];exact ZL
  have K7:=I ((K5.trans Jg).trans Jk);have X7:=I (HO.ext.trans K7);have GS:=I ((LV.ext Jk).mono Lt);have KX:=I (show w7.heap[w6.heap.size]?=some (de r xa xn xc ya yn yc ra rn rc)by rw[Ie];exact LE rfl);have SY:=I (show A1.heap.size<=w6.heap.size by have h1:=Jg.size;have h2:=Lt.o;omega);have⟨q,hq⟩:=j7 p.toNat;have GV:=I (λ(h:ok=true)=>show r=cY q V L by
   have D9:=Ho.symm.trans h;have⟨E1,E2,E3⟩:=uL D9;rw[K8.o,E1,E2,E3,hq];exact(Yk D9).symm)
  have HQ:=I hq;obtain⟨rs,rX,Z,rr,⟨FR,Fz⟩,rp⟩:=r;unfold JA;go_upto_region 7 with rfl;rw[<-Ie];clear LV Jg Jk Ie t0 t1 t2 hq;generalize w6.heap.size=G at KX SY⊢;have VH:=IO KX.o;have⟨l0,l1,l2,l3,l4,l5,l6,lf⟩:=FN KX.o
  try simp only at l0 l1 l2 l3 l4 l5 l6
  by_cases hgo:ok=true/\rs=1
  ·obtain⟨rfl,rfl⟩:=hgo;obtain⟨hgm,Qo,_,_⟩:=kE Ho.symm;obtain⟨_,h32,Fw,I6,Lk,_⟩:=kJ hgm;have Ml:=I (GV rfl);refine Fn (vF Ho.symm (by rw[<-HQ.o,<-Ml.o])) (sV Ho.symm (by rw[<-HQ.o,<-Ml.o])) (λf=>Eg (f:=f) (k:=k) Ho.symm (by rw[<-HQ.o,<-Ml.o])) λHSZ HFE HNX=>?_;rw[<-HQ.o,<-Ml.o]at HSZ HFE HNX;rw[<-HQ.o]at Fw I6 Lk;have Gi:=I Fw;have IU:n<=32:=by rw[<-HVL.o];exact h32
   have JJ:2<=q:=O;clear hgm h32 Fw;have⟨Wa,Oz,NF,Lg⟩:=HSZ.o
   try simp only at Wa Oz NF Lg
   have Ha:=aV NF
   try simp only at Ha
   refine Fn Wa Oz Lg λHXL OQ HYV=>?_;have Nb:q+1=yn:=by have h1:=GS.y.here.hlen;have h2:=OQ.o;(try simp only at h1);omega
   clear Wa Oz NF Lg Qo;refine Fn (HO.grow K7) HO.lt (IV.refl A1 w7) λKb LH Qx=>?_;have⟨b0,b1,b2,b3,bf⟩:=IT Kb.box;obtain⟨k1,Ij⟩:∃x:Int,x=(k:Int)+1:=⟨_,rfl⟩;have hwk:=qj ((k:Int)+1) k1;have HK1:=I (show k1=((k+1:Nat):Int)by omega);clear Ij;have⟨w8,PF⟩:=j7 (w7.setCell (IM B 3) (U k1));have Nt:=I (Kb.setK (k':=k+1) HK1);have Un:=I (Qx.set (j:=3) LH.o (U k1));rw[<-PF]at Nt Un;go_upto_region 10 with rfl;rw[<-PF];clear PF b0 b1 b2 b3 bf hwk;have⟨b0,b1,b2,b3,bf⟩:=IT Nt.box;have⟨w9,hw9⟩:=j7 (w8.setCell (IM B 1) d9);have Il:=I (Nt.aft og);have Um:=I (Un.set (j:=1) LH.o d9);rw[<-hw9]at Il Um;go_upto_region 11 with rfl;rw[<-hw9];clear hw9 b0 b1 b2 b3 bf l0 l1 l2 l3 l4 l5 l6 lf;refine Fn (Um.blk SY.o KX) (Um.on GS.x) (Um.on GS.y) λN6 HLRX HLRY=>?_;go_wp2
   go_loopg [7] q (λgk ii wr=>∃(j:Nat) (WM:atY),e9 (gk+j=q)/\ii=U j/\e9 (GC W wr B WM (FB aS nS cS) d9 ((Z.take j).map D2) L [] (k+1))/\e9 (IV A1 w9 wr)/\e9 (EE A1 w9 WM))
   ·exact⟨0,_,I O,rfl,Il,I (IV.refl _ _),I (EE.nil _ _ _ _)⟩
   rename Nat=>g2;rename J=>wr2;obtain⟨j,vp2,HJ,rfl,FM,IN,VP⟩:=hrel;obtain⟨aP2,nP2,cP2,rfl,HNP2⟩:=FM.pt.var;have c0:=FM.ext.o9 Kz.o;by_cases hjq:j<q
   ·have hjy:j<yn:=by omega
    have hjp:(j:Int)<p:=l8 Gi.o;have⟨yb,F3,y1,y2,hye,hyj,hyc1,hyc2⟩:=(IN.on HLRY).here.at hjy;subst hye
    try simp only at hyj
    have⟨l0,l1,l2,l3,l4,l5,l6,lf⟩:=FN (IN.blk SY.o N6)
    try simp only at l0 l1 l2 l3 l4 l5 l6
    have⟨b0,b1,b2,b3,bf⟩:=IT FM.box;have H7:=I (show((Z.take j).map D2)++[(-y1,y2)]=(Z.take (j+1)).map D2 by
     have Hn:j<Lp Z:=l8 OQ.o;rw[tn Hn,rN,z8];rw[In Hn,NE]at hyj;rw[hyj];rfl)
    have O9:-9223372036854775807<=y1/\y1<=9223372036854775807:=by
     have:=aV (HYV j (l8 OQ.o));rw[hyj]at this;simp only at this;omega
    refine Fn (show((Z.take j).map D2).length<=100 by rw[b7,jt];omega) FM.lt hyj λLa Qi HYJ=>?_;clear hyj;go_wp2_with rfl;have H:=D4.drew wr2;have r8:=I λw' (h:D4 wr2 w')=>TX (h.o9 b1) (TX (h.o9 l2) (TX (h.o9 hyc1) (h.o9 hyc2)));refine cj (M:=[11]) (S:=λw'=>w'.cell? (IM B 1)=some (FB aP2 nP2 cP2)/\w'.cell? (IM G 2)=some (FB (some (IM yb F3)) yn yc)/\w'.cell? (IM yb (F3+j*2))=some (U y1)/\w'.cell? (IM yb (F3+j*2+1))=some (U y2)) k8 ?_;have r9:=r8.o _ H;have⟨wd,hwd⟩:=j7 wr2.drew;rw[<-hwd]at H r9;rw[<-hwd];clear hwd;refine Lj ⟨?_⟩;refine Im 7 λK hK=>?_;go_simp;go_at_call 180;refine i6 (eZ y1 y2 _ O O) λN7 Jq=>?_;have H:D4 wr2 N7:=H.trans Jq;have Zj:=H.size;go_wp2_with rfl;refine KL (r8 _ H) λr9=>?_
    refine Im 8 λK hK=>?_;go_simp;refine hK.out _ _ (λ_=>r8.o _ (H.trans ZL)) ?_;clear hK K
    try simp only[Act.put,sA,sB,sC]
    refine Im 9 λK hK=>?_;refine dw _ _ l7 (B+1) (FB aP2 nP2 cP2) _ l7 (FM.pt.ext (H.trans ZL)) _ 1 _ [(-y1,y2)] l7 (z6 j9) (l8 La.o) PU ?_;intro v13 S5 ho hg r';refine Fn ((hg.block B PU (λe=>by have:=(FM.pt.lt B e.symm).1;omega)).trans ((H.trans ZL).blk FM.box)) ((IN.ext (H.trans ZL)).grown hg VP) (VP.near r' (by have h1:=IN.size;simp;omega)) λaa2 QY VV=>?_;obtain⟨a13,n13,c13,rfl,afa⟩:=ho.var;have Ks:=I (FM.ak4 (H.trans ZL) hg ho);have⟨c0,c1,c2,c3,cf⟩:=IT aa2.o;have⟨m0,m1,m2,m3,m4,m5,m6,mf⟩:=FN (QY.blk SY.o N6)
    (try simp only at m0 m1 m2 m3 m4 m5 m6)
    have⟨yb',aiR,y1',y2',hye',hyj',hyd1,hyd2⟩:=(QY.on HLRY).here.at hjy;obtain⟨rfl,rfl⟩:=er hye';clear hye';have hy12:=HYJ.symm.trans hyj';simp only[sj]at hy12;obtain⟨rfl,rfl⟩:=hy12;clear ho hg r' hyj';refine KL (eN c1 (eN m2 (eN hyd1 hyd2))) λr9=>?_;refine lp 10 ?_;refine Ql 11 ?_;refine cU k8 ?_ _;rw[H7.o]at Ks;have⟨w14,PG⟩:=j7 (S5.setCell (IM B 1) (FB a13 n13 c13));have RO:=I (QY.set (j:=1) LH.o (FB a13 n13 c13));rw[<-PG]at Ks RO;go_upto_region 13 with rfl;rw[<-PG];clear PG c0 c1 c2 c3 cf m0 m1 m2 m3 m4 m5 m6 mf b0 b1 b2 b3 bf l0 l1 l2 l3 l4 l5 l6 lf hyd1 hyd2 hyc1 hyc2 r9 H;go_wp2_with rfl
    refine YX ?_;exact⟨j+1,_,I (l8 HJ.o),by go_num,Ks,RO,VV⟩
   have hjq':j=q:=l8 HJ.o;have hjp:¬(j:Int)<p:=l8 Gi.o;rw[hjq']at FM;have⟨b0,b1,b2,b3,bf⟩:=IT FM.box;have e1:=FM.ext.o9 K9.o;have RS:=I (po p a n cap O FM.st.SL);clear hjq';go_wp2_with rfl;refine hF RS λQ9 v ho QI=>?_;obtain⟨a11,m,c11,rfl,HM⟩:=ho.var;have VS:=I (FM.grow QI);have QZ:=I (IN.ext QI);have HS911:e9 (w9.heap.size<=Q9.heap.size):=QZ.size;have HFN:=I (show bC L (n-2)=GM V L by unfold GM;rw[HVL.o]);rw[HFN.o]at ho HM;refine Op (ho.mono (show A1.heap.size<=wr2.heap.size by have h1:=IN.size;have h2:=Um.size;have h3:=K7.size;omega)) (QZ.on HLRX) (QZ.blk SY.o N6) (EE.of (hi:=Q9.heap.size) HO.st.lt (m9 _)) λad8 aaR RW HOS=>?_;have hmx:m<=xn:=by have h1:=aaR.here.hlen;have h2:=HXL.o;have h3:=HM.o;(try simp only at h1);omega
   have Zu:m<=32:=by
    exact PQ
   have ahj:=I (show(L++H6 (GM V L) ⟨1,rX,Z,rr,(FR,Fz),rp⟩ 0)=L by rw[vB,D0]);clear ho b0 b1 b2 b3 bf e1 c0 hjp hjq;go_wp2
   go_loopg [9] m (λgk ii wr=>∃(j:Nat) (vs':atY),e9 (gk+j=m)/\ii=U j/\e9 (GC W wr B (FB aP2 nP2 cP2) vs' d9 ((Z.take q).map D2) (L++H6 (GM V L) ⟨1,rX,Z,rr,(FR,Fz),rp⟩ j) [] (k+1))/\e9 (IV A1 Q9 wr)/\e9 (EE A1 Q9 vs'))
   ·exact⟨0,_,I O,rfl,I (by rw[ahj.o];exact VS),I (IV.refl _ _),HOS⟩
   obtain⟨j3,vs3,HJ3,rfl,C8,MZ,ahk⟩:=hrel;obtain⟨aS3,nS3,cS3,rfl,HNS3⟩:=C8.st.var;by_cases Nh:j3<m
   ·have hjx:j3<xn:=by omega
    have⟨fb,PV,hfe,ZE⟩:=(MZ.ints (m9 _) ad8).ints.at Nh;subst hfe;have⟨xb,Py,x1,x2,Vo,hxj,hxc1,hxc2⟩:=(MZ.on aaR).here.at hjx;subst Vo;have⟨l0,l1,l2,l3,l4,l5,l6,lf⟩:=FN (MZ.blk SY.o RW)
    try simp only at l0 l1 l2 l3 l4 l5 l6 hxj
    have⟨s,hs⟩:=j7 ((GM V L)[j3]?.getD 0);rw[<-hs]at ZE;by_cases B9:0<x1
    ·have Sc:=I (show(L++H6 (GM V L) ⟨1,rX,Z,rr,(FR,Fz),rp⟩ j3)++[(s,-FR,Fz)]=L++H6 (GM V L) ⟨1,rX,Z,rr,(FR,Fz),rp⟩ (j3+1)by
      rw[lX,i7 (by show 0<(rX[j3]?.getD (0,0)).1;rw[hxj];exact B9),<-hs,vl])
     have⟨b0,b1,b2,b3,bf⟩:=IT C8.box;have La:=I (show(L++H6 (GM V L) ⟨1,rX,Z,rr,(FR,Fz),rp⟩ j3).length<=2000 by
      rw[ar];have h1:=nz (GM V L) ⟨1,rX,Z,rr,(FR,Fz),rp⟩ j3;have h2:=Gq.o;omega)
     have Qi:=I C8.lt;have Tr:=I hs;clear hs;go_wp2_with rfl;have H:=D4.drew wr;have r8:=I λw' (h:D4 wr w')=>TX (h.o9 b2) (TX (h.o9 l4) (TX (h.o9 l5) (h.o9 ZE)));refine cj (M:=[13]) (S:=λw'=>w'.cell? (IM B 2)=some (FB aS3 nS3 cS3)/\w'.cell? (IM G 4)=some (U FR)/\w'.cell? (IM G 5)=some (U Fz)/\w'.cell? (IM fb (PV+j3))=some (U s)) k8 ?_;have r9:=r8.o _ H;have⟨wd,hwd⟩:=j7 wr.drew;rw[<-hwd]at H r9;rw[<-hwd];clear hwd;refine ly ⟨?_⟩;refine lp 4 ?_;refine ll 5 ?_;refine lp 6 ?_;refine ll 7 ?_;refine Im 8 λK hK=>?_;go_simp;go_at_call 180;refine i6 (eZ FR Fz _ O O) λN7 Jq=>?_;have H:D4 wr N7:=H.trans Jq;have Zj:=H.size;go_wp2_with rfl;refine KL (r8 _ H) λr9=>?_
     refine lp 9 ?_;refine Im 10 λK hK=>?_;go_simp;refine hK.out _ _ (λ_=>r8.o _ (H.trans ZL)) ?_;clear hK K
     try simp only[Act.put,sA,sB,sC]
     refine Im 11 λK hK=>?_;refine iq I8 Tryz.O8 rfl Vz FS _ _ l7 (B+1) (FB aS3 nS3 cS3) _ l7 (C8.st.ext (H.trans ZL)) _ 1 1 [(s,-FR,Fz)] l7 (ID.lit I8 _ _ _ 1 l7 _ l7 _ l7 O) (l8 La.o) PU ?_;intro v13 S5 ho hg r';refine Fn ((hg.block B PU (λe=>by have:=(C8.st.lt B e.symm).1;omega)).trans ((H.trans ZL).blk C8.box)) ((MZ.ext (H.trans ZL)).grown hg ahk) (ahk.near r' (by have h1:=MZ.size;simp;omega)) λaa2 QY VV=>?_;obtain⟨a13,n13,c13,rfl,afa⟩:=ho.var;have Ks:=I (C8.aeV (H.trans ZL) hg ho);have⟨c0,c1,c2,c3,cf⟩:=IT aa2.o;have⟨m0,m1,m2,m3,m4,m5,m6,mf⟩:=FN (QY.blk SY.o RW)
     (try simp only at m0 m1 m2 m3 m4 m5 m6)
     have⟨fb',foff',hfe',agj⟩:=(QY.ints (m9 _) ad8).ints.at Nh;obtain⟨rfl,rfl⟩:=er hfe';clear hfe';rw[<-Tr.o]at agj;clear ho hg r';refine KL (eN c2 (eN m4 (eN m5 agj))) λr9=>?_;refine lp 12 ?_;refine Ql 13 ?_;refine cU k8 ?_ _;rw[Sc.o]at Ks;have⟨w14,PG⟩:=j7 (S5.setCell (IM B 2) (FB a13 n13 c13));have RO:=I (QY.set (j:=2) LH.o (FB a13 n13 c13));rw[<-PG]at Ks RO;go_upto_region 18 with rfl;rw[<-PG];clear PG c0 c1 c2 c3 cf m0 m1 m2 m3 m4 m5 m6 mf b0 b1 b2 b3 bf l0 l1 l2 l3 l4 l5 l6 lf r9 H ZE agj;go_wp2_with rfl
     refine Nc ?_;exact⟨j3+1,_,I (l8 HJ3.o),by go_num,Ks,RO,VV⟩
    have Sc:=I (show(L++H6 (GM V L) ⟨1,rX,Z,rr,(FR,Fz),rp⟩ j3)=L++H6 (GM V L) ⟨1,rX,Z,rr,(FR,Fz),rp⟩ (j3+1)by
     rw[lX,f8 (by show¬0<(rX[j3]?.getD (0,0)).1;rw[hxj];exact B9),D0])
    clear hs;go_wp2_with rfl;refine Nc ?_;exact⟨j3+1,_,I (l8 HJ3.o),by go_num,I (by rw[<-Sc.o];exact C8),MZ,ahk⟩
   have PJ:j3=m:=l8 HJ3.o;have HE:=I (show L++H6 (GM V L) ⟨1,rX,Z,rr,(FR,Fz),rp⟩ j3=eu V L ⟨1,rX,Z,rr,(FR,Fz),rp⟩by unfold eu;rw[HM.o,PJ]);rw[HE.o]at C8;clear PJ;have⟨N,hN⟩:=j7 (eu V L ⟨1,rX,Z,rr,(FR,Fz),rp⟩);refine Fn (AE (V:=V) (L:=L) (r:=⟨1,rX,Z,rr,(FR,Fz),rp⟩) (k:=k) (by rw[HVL.o];exact IU) Hj.o Gq) (HNX (g1-1)) (show g1-1+1=g1 by have:=HFU.o;omega) λIY SU Uw=>?_;rw[Uw.o,Uo.o]at SU;have HFE2:=I HFE.o;rw[<-hN]at C8 IY SU HFE2;clear hN;have hnS3:nS3<=100000:=by have h1:=HNS3.o;have h2:=IY.2;have h3:=C8.st.SL.hlen;omega
   have Vb:=I (EP (p:=p) (a:=a) (cap:=cap) HVL.o O C8.st.SL O IY.1);generalize ft p V N=d at Vb SU;have⟨b0,b1,b2,b3,bf⟩:=IT C8.box;have e0:=C8.ext.o9 Kz.o;have e1:=C8.ext.o9 K9.o;go_wp2_with rfl;refine qc Vb λKY Y1=>?_;have NY:=I (C8.grow Y1);clear b0 b1 b2 b3 bf e0 e1;cases d
   ·have HR:e9 (LM p V (g1-1) N (k+1)=o):=SU.symm;go_wp2_with rfl;refine L7 ?_;exact⟨k+1,N,_,_,_,I (by have h1:=HK.o;have h2:=HFU.o;omega),NY,I (by have h1:=HFE2.o;have h2:=HFU.o;omega),I IY.1,I IY.2,I (by have h1:=HK.o;have h2:=HFU.o;have h3:Lp (GM V [])<=Lp V-2:=eJ [] (Lp V-2);have h4:=HVL.o;omega),HR⟩
   have HR:e9 (o=⟨true,(Z.take q).map D2,N,k+1⟩):=SU;have⟨b0,b1,b2,b3,bf⟩:=IT NY.box;have X15:=I NY.ext;have⟨q0,q1,q2,q3,qf⟩:=MP.o KY X15.o;obtain⟨kk,Rb⟩:∃x:Int,x=((k+1:Nat):Int):=⟨_,rfl⟩;rw[<-Rb]at b3;have MR:=I Rb;clear Rb;obtain⟨z0,z1,z2,z3,_⟩:=GK.o KY X15.o (ato true) (FB aP2 nP2 cP2) (FB aS3 nS3 cS3) (U kk);have HZ:=I (Lz KY X15.o (ato true) (FB aP2 nP2 cP2) (FB aS3 nS3 cS3) (U kk));have Qu:=I (aaY KY X15.o (ato true) (FB aP2 nP2 cP2) (FB aS3 nS3 cS3) (U kk));have Q1:=I ((NY.pt.keep (λj hj=>Qu.o j (l8 ((NY.pt.lt j hj).1)))).mono (show w.heap.size<=B+1 by omega));have Hx:=I ((NY.st.keep (λj hj=>Qu.o j (l8 ((NY.st.lt j hj).1)))).mono (show w.heap.size<=B+1 by omega));go_wp2;refine GE (v:=.agg #[ato true,FB aP2 nP2 cP2,FB aS3 nS3 cS3,U kk]) (by simp[results,bt,go_sem,z0,z1,z2,z3]) rfl ⟨by rw[HR.o];exact⟨_,_,_,_,_,_,by rw[MR.o],Q1,Hx⟩,HZ⟩
  have Jn:=I (show o=L5.no by
   rw[<-Uo.o];refine uw (λh=>hgo ?_);rw[<-Ho.o,<-HQ.o]at h;refine⟨h.1,?_⟩;have h2:=h.2;rw[<-GV.o h.1]at h2;exact h2)
  have⟨q0,q1,q2,q3,qf⟩:=MP.o w7 X7.o;obtain⟨z0,z1,z2,z3,_⟩:=GK.o w7 X7.o (ato false) d9 (d9) (U 0);have HZ:=I (Lz w7 X7.o (ato false) d9 (d9) (U 0));cases ok
  ·have qq0:=@bt;exact U7
  have KD:(rs != 1)=true:=by
   have:rs≠1:=λh=>hgo ⟨rfl,h⟩
   simp[this]
  have qq0:=@bt;exact U7
 have OD:p=1:=by
  have:=Hy.o;cases gb
  ·cases this
  simpa using this.symm
 have MU:ak p V=true:=by
  have:=Hy.o;rw[<-Gj.o];cases gb
  ·cases this
  rfl
 have HOV:=I (show o=⟨true,[(bu p V,1)],[],0⟩by rw[HOO.o];unfold JX;rw[i7 MU,i7 OD]);have Lx:=I (iY (p:=p) (HI.ext Ns.ext));generalize bu p V=g at Lx HOV;have c0:=Ns.ext.o9 Kz.o;have c1:=Ns.ext.o9 K9.o;clear OD MU;go_wp2_with rfl;refine qc Lx λw3 C0=>?_;go_wp2_with rfl;refine qc (cV g _) λw4 E4=>?_;have F':D4 w2 (w4.alloc (SH #[U g,U 1] 80)):=(C0.trans E4).trans ZL;have Fj:=I (Ns.grow F');have HOR:=I (ZM.ai6 w4 (B+1) g 1 (by have h1:=Ns.lt;have h2:=(C0.trans E4).size;omega));have Gp:=I (Fj.aft HOR);have⟨b0,b1,b2,b3,bf⟩:=IT Fj.box;have⟨w6,IL⟩:=j7 ((w4.alloc (SH #[U g,U 1] 80)).setCell (IM B 1) (GT w4 1 1));rw[<-IL]at Gp;clear F' c0 c1;go_upto_region 4 with rfl;rw[<-IL];generalize w4.heap.size=G at Gp⊢;clear IL b0 b1 b2 b3 bf;have⟨b0,b1,b2,b3,bf⟩:=IT Gp.box;have X6:=I Gp.ext;have⟨q0,q1,q2,q3,qf⟩:=MP.o w6 X6.o;obtain⟨z0,z1,z2,z3,_⟩:=GK.o w6 X6.o (ato true) (GT G 1 1) d9 (U 0);have HZ:=I (Lz w6 X6.o (ato true) (GT G 1 1) d9 (U 0))
 have Qu:=I (aaY w6 X6.o (ato true) (GT G 1 1) d9 (U 0));have Q1:=I ((Gp.pt.keep (λj hj=>Qu.o j (l8 ((Gp.pt.lt j hj).1)))).mono (show w.heap.size<=B+1 by omega));have Hx:=I ((Gp.st.keep (λj hj=>Qu.o j (l8 ((Gp.st.lt j hj).1)))).mono (show w.heap.size<=B+1 by omega));go_wp2;refine GE (v:=.agg #[ato true,GT G 1 1,d9,U 0]) (by simp[results,bt,go_sem,z0,z1,z2,z3]) rfl ⟨by rw[HOV.o];exact⟨_,_,_,_,_,_,rfl,Q1,Hx⟩,HZ⟩
