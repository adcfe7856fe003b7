import Derived.Test.YtalmoolkhcgmmaaGreatNqAltG30
import Derived.Test.YtalmoolkhcgmmaaGreatNqAltG18
import Derived.Test.YtalmoolkhcgmmaaGreatNqAltG13
set_option linter.unusedVariables false
set_option linter.unusedSimpArgs false
namespace Go.Proofs.YtalmoolkhcgmmaaGreat
variable{r:AT}{t:Rat}{V:j9}{L:j5}{j:Nat}{c:IF}{z:Nat->Rat}{s:Int}
theorem Nv{A:j7}{B:j9}{C:j6}(hc:Cert A B C r)(z:Nat->Rat):
 o0 (fun j=>o4 r.X j*(- o4 C j-o0 (fun i=>z i*(C4 A i j:Rat)) A.length)) C.length=- val r.value-o0 (fun i=>z i*((B[i]?.getD 0:Int):Rat)) A.length:=by
 have h1:o0 (fun j=>o4 r.X j*(- o4 C j-o0 (fun i=>z i*(C4 A i j:Rat)) A.length)) C.length=o0 (fun j=>- (o4 C j*o4 r.X j)+(-1)*o0 (fun i=>z i*((C4 A i j:Rat)*o4 r.X j)) A.length) C.length:=aq fun j hj=>by
  have e:o0 (fun i=>z i*((C4 A i j:Rat)*o4 r.X j)) A.length=o4 r.X j*o0 (fun i=>z i*(C4 A i j:Rat)) A.length:=by
   rw[<-cK];exact aq fun i hi=>by grind
  rw[e]
  grind
 rw[h1,dd,eH,fU,hc.cx];have h2:o0 (fun i=>o0 (fun j=>z i*((C4 A i j:Rat)*o4 r.X j)) C.length) A.length=o0 (fun i=>z i*((B[i]?.getD 0:Int):Rat)) A.length:=aq fun i hi=>by
  rw[cK,hc.row i hi]
 rw[h2]
 grind
theorem kM{x e:Nat->Rat}{m:Nat}(h1:o0 x m=1)(h0:∀j,j<m->0<=x j)(he:∀j,j<m->e j<=t):o0 (fun j=>x j*e j) m<=t:=by
 have h2:o0 (fun j=>x j*e j) m<=o0 (fun j=>t*x j) m:=fw fun j hj=>by
  have:=Rat.mul_le_mul_of_nonneg_left (he j hj) (h0 j hj)
  grind
 rw[cK,h1]at h2
 grind
theorem oW{x e:Nat->Rat}{m:Nat}(h1:o0 x m=1)(h0:∀j,j<m->0<=x j)(ht:o0 (fun j=>x j*e j) m=t){k:Nat}(hk:k<m)(hx:0<x k)(hne:e k≠t):∃j,j<m/\0<x j/\t<e j:=by
 false_or_by_contra
 rename_i G
 have hle:∀j,j<m->x j*e j<=t*x j:=fun j hj=>by
  by_cases Oj:0<x j
  ·have:e j<=t:=by
    by_cases h:t<e j
    ·exact absurd ⟨j,hj,Oj,h⟩ G
    ·grind
   have:=Rat.mul_le_mul_of_nonneg_left this (h0 j hj)
   grind
  ·have:=h0 j hj;have:x j=0:=by grind
   rw[this];grind
 have hlt:e k<t:=by
  by_cases h:t<e k
  ·exact absurd ⟨k,hk,hx,h⟩ G
  ·grind
 have hd:o0 (fun j=>t*x j-x j*e j) m=0:=by
  have e1:o0 (fun j=>t*x j-x j*e j) m=o0 (fun j=>t*x j+(-1)*(x j*e j)) m:=aq fun j _=>by grind
  rw[e1,dd,cK,h1,ht]
  grind
 have Ia:t*x k-x k*e k<=o0 (fun j=>t*x j-x j*e j) m:=by
  have e2:o0 (fun j=>if j=k then t*x j-x j*e j else 0) m<=o0 (fun j=>t*x j-x j*e j) m:=fw fun j hj=>by
   have:=hle j hj
   split<;>grind
  rw[cV hk (fun j _ hj=>if_neg hj),if_pos rfl]at e2;exact e2
 rw[hd]at Ia;have zq:0<x k*(t-e k):=Rat.mul_pos hx (by grind)
 grind
theorem gu{f:Nat->Rat}{m:Nat}:∀d,(∀k,m<=k->k<m+d->f k=0)->o0 f (m+d)=o0 f m
 | 0,_=>rfl
 | d+1,h=>by
   rw[<-Nat.add_assoc];simp only[o0];rw[gu d (fun k h1 h2=>h k h1 b9),h (m+d) b9 b9]
   grind
def zs(q:Nat)(z:Nat->Rat)(s:Int):Rat:=o0 (fun k=>z k*((wL (xt s (k:Int)):Int):Rat)) q
def xx(q:Nat)(V:j9)(z:Nat->Rat)(s:Int):Rat:=((V[s.toNat]?.getD 0:Int):Rat)-zs q z s
structure eP(q:Nat)(V:j9)(L:j5)(z:Nat->Rat):Prop where
 zL:xx q V z ((V.length:Int)-1)=0
 fixed:∀f∈L,xx q V z f.1=val f.2
theorem kB{q:Nat}(h:(bZ V L)[j]?=some c){i:Nat}(hi:i<q+1):C4 (stA q V L) i j=c.2.1*wL (Gj q i c):=by
 unfold C4 stA AH;rw[List.getElem?_map,List.getElem?_range hi,Option.map_some,Option.getD_some,List.getElem?_map,h,Option.map_some,Option.getD_some]
theorem tC{q:Nat}(h:(bZ V L)[j]?=some c)(z:Nat->Rat):
 - o4 (Bs V L) j-o0 (fun i=>(if i<q then z i else 0)*(C4 (stA q V L) i j:Rat)) (q+1)=- val c.2.2.2-((c.2.1:Int):Rat)*zs q z c.1:=by
 have e1:o4 (Bs V L) j=val c.2.2.2:=by unfold o4;rw[kA h]
 have e2:o0 (fun i=>(if i<q then z i else 0)*(C4 (stA q V L) i j:Rat)) (q+1)=((c.2.1:Int):Rat)*zs q z c.1:=by
  rw[gu (m:=q) 1 (fun k h1 h2=>by rw[if_neg b9];grind)];unfold zs;rw[<-cK];refine aq fun i hi=>?_
  rw[if_pos hi,kB h b9,Rat.intCast_mul];unfold Gj;rw[if_pos hi]
  grind
 rw[e1,e2]
theorem uY{E:j5}(h:c∈aN V E):∃f∈E,c∈y6 f.1 (cD V f):=by
 unfold aN at h;obtain⟨f,hf,hc⟩:=List.mem_flatMap.1 h;exact⟨f,hf,hc⟩
theorem M7{q:Nat}{f:Int×Int×Int}(hf:EV V f=true)(hz:xx q V z f.1=val f.2)(hc:c∈y6 f.1 (cD V f)):- val c.2.2.2-((c.2.1:Int):Rat)*zs q z c.1=0:=by
 unfold EV at hf;obtain⟨a1,a2,a3,a4⟩:=fW hf;rw[bp]at a4;have Fm:val (cD V f)=val f.2-((V[f.1.toNat]?.getD 0:Int):Rat):=a4;unfold xx at hz;unfold y6 at hc;simp only[List.mem_cons,List.not_mem_nil,or_false]at hc
 rcases hc with rfl|rfl
 ·show-val ((cD V f).1,(cD V f).2)-((1:Int):Rat)*zs q z f.1=0;have e:((1:Int):Rat)=1:=rfl;rw[show((cD V f).1,(cD V f).2)=cD V f from rfl,Fm,e]
  grind
 ·show-val (wR (cD V f))-((-1:Int):Rat)*zs q z f.1=0;have e:((-1:Int):Rat)=-1:=rfl;rw[cH,Fm,e]
  grind
theorem fS{p:Int}(h:xH p V L=true)(hs:(ap p.toNat V L).status=1)(hm:eP p.toNat V L z):
 o0 (fun j=>o4 (ap p.toNat V L).X j*xx p.toNat V z ((wV V L)[j]?.getD 0)) (wV V L).length=- val (ap p.toNat V L).value/\o0 (fun j=>o4 (ap p.toNat V L).X j) (wV V L).length=1/\∀j,j<(wV V L).length->0<=o4 (ap p.toNat V L).X j:=by
 obtain⟨hg,Rn,_,_⟩:=fu h;obtain⟨h1,_,hpn,_,_,J⟩:=fM hg;obtain⟨v1,_,v3,_⟩:=eA hs;have G:=nK v1 v3 hs;change Cert (stA p.toNat V L) (CW p.toNat) (Bs V L) (ap p.toNat V L)at G;have D':dE p V L=true:=by unfold xH at h;simp only[Bool.and_eq_true]at h;exact h.1
 have Ea:=me D' rfl h1 J;rw[h]at Ea;have Ea:=List.all_eq_true.1 Ea.symm;obtain⟨r,hr⟩:=b8 (ap p.toNat V L);rw[<-hr]at G⊢;have I:=gD rfl h1 J L;have hAl:(stA p.toNat V L).length=p.toNat+1:=by simp[stA]
 have hCl:(Bs V L).length=(wV V L).length+(aN V (zJ V.length L)).length:=by
  unfold Bs wV;rw[List.length_map,<-I,List.length_append,ch]
 have MI:∀j,j<(wV V L).length->(bZ V L)[j]?=some ((wV V L)[j]?.getD 0,1,true,-(V[((wV V L)[j]?.getD 0).toNat]?.getD 0),1):=fun j hj=>by
  unfold wV at hj⊢;rw[<-I,List.getElem?_append_left (by rw[ch];exact hj)];unfold bu;rw[List.getElem?_map,List.getElem?_eq_getElem hj]
  rfl
 have GG:∀j,(wV V L).length<=j->j<(wV V L).length+(aN V (zJ V.length L)).length->∃f∈zJ V.length L,∃c∈y6 f.1 (cD V f),(bZ V L)[j]?=some c:=fun j h2 h3=>by
  have e:(bZ V L)[j]?=(aN V (zJ V.length L))[j-(wV V L).length]?:=by
   unfold wV;rw[<-I,List.getElem?_append_right (by rw[ch];exact h2),ch]
  have hl:j-(wV V L).length<(aN V (zJ V.length L)).length:=by omega
  rw[List.getElem?_eq_getElem hl]at e;obtain⟨f,hf,hc⟩:=uY (List.getElem_mem hl);exact⟨f,hf,_,hc,e⟩
 have Mx:∀f∈zJ V.length L,xx p.toNat V z f.1=val f.2:=fun f hf=>by
  unfold zJ at hf
  rcases List.mem_append.1 hf with hf|hf
  ·exact hm.fixed f hf
  ·simp only[List.mem_cons,List.not_mem_nil,or_false]at hf;subst hf;rw[hm.zL];exact(bp 0).symm
 have Ik:=Nv G (fun i=>if i<p.toNat then z i else 0);rw[hAl,hCl]at Ik
 rw[gu _ (fun j h2 h3=>by
  obtain⟨f,hf,c,hc,he⟩:=GG j h2 h3;rw[tC he,M7 (Ea f hf) (Mx f hf) hc]
  grind)]at Ik
 have RJ:o0 (fun i=>(if i<p.toNat then z i else 0)*(((CW p.toNat)[i]?.getD 0:Int):Rat)) (p.toNat+1)=0:=cv fun i hi=>by
  by_cases F5:i<p.toNat
  ·have e:(CW p.toNat)[i]?.getD 0=0:=by
    unfold CW;rw[List.getElem?_map,List.getElem?_range b9,Option.map_some,Option.getD_some];have:decide (i=p.toNat)=false:=decide_eq_false b9;rw[this];rfl
   rw[e];grind
  ·rw[if_neg F5];grind
 rw[RJ]at Ik;refine⟨?_,?_,fun j hj=>G.x0 j b9⟩
 ·rw[<-(show-val r.value-0=- val r.value by grind),<-Ik];refine aq fun j hj=>?_
  rw[tC (MI j hj)];unfold xx
  show _=o4 r.X j*(- val (-(V[((wV V L)[j]?.getD 0).toNat]?.getD 0),1)-((1:Int):Rat)*zs p.toNat z ((wV V L)[j]?.getD 0));have e:((1:Int):Rat)=1:=rfl;rw[bp,Rat.intCast_neg,e]
  grind
 ·have o9:=G.row p.toNat b9;have e1:((CW p.toNat)[p.toNat]?.getD 0)=1:=by
   unfold CW;rw[List.getElem?_map,List.getElem?_range b9,Option.map_some,Option.getD_some];rw[show decide (p.toNat=p.toNat)=true from decide_eq_true rfl];rfl
  rw[e1,hCl]at o9;have hq:∀c:IF,Gj p.toNat p.toNat c=c.2.2.1:=fun c=>by unfold Gj;rw[if_neg b9]
  rw[gu _ (fun j h2 h3=>by
   obtain⟨f,hf,c,hc,he⟩:=GG j h2 h3;rw[kB he b9,hq];have:c.2.2.1=false:=by
    unfold y6 at hc;simp only[List.mem_cons,List.not_mem_nil,or_false]at hc
    rcases hc with rfl|rfl<;>rfl
   rw[this]
   show((c.2.1*0:Int):Rat)*_=0;rw[Int.mul_zero]
   show(0:Rat)*_=0
   grind)]at o9
  have e2:(((1:Int)):Rat)=1:=rfl;rw[e2]at o9;rw[<-o9];refine aq fun j hj=>?_
  rw[kB (MI j hj) b9,hq]
  show _=((1*1:Int):Rat)*o4 r.X j;have e3:((1*1:Int):Rat)=1:=rfl;rw[e3]
  grind
theorem Q0{A:j7}{B:j9}{C:j6}(hc:aD aV A B C r=true)(hs:r.status=1)(hj:0<(r.X[j]?.getD (0,0)).1):0<o4 r.X j:=by
 unfold aD at hc;rw[if_pos hs]at hc;obtain⟨hf,_⟩:=both hc;unfold dp at hf;obtain⟨_,hf⟩:=both hf;obtain⟨zq,_⟩:=both hf;by_cases hl:j<r.X.length
 ·have:=List.all_eq_true.1 zq (r.X[j]) (List.getElem_mem hl);obtain⟨a,_⟩:=both this;unfold o4;rw[List.getElem?_eq_getElem hl,Option.getD_some]at hj⊢;have hn:=mt (eC (p:=wR r.X[j]) (by rw[cX];exact a)).2 (by show¬0<=-(r.X[j]).1;omega);rw[cH]at hn
  grind
 ·rw[List.getElem?_eq_none b9,Option.getD_none]at hj;exact absurd hj (by decide)
theorem ox{q:Nat}(hc:Cert (stA q V L) (CW q) (Bs V L) r)(h:(bZ V L)[j]?=some c):
 - (((c.2.1:Int):Rat)*zs q (fun i=>- o4 r.Y i) c.1)+((c.2.1:Int):Rat)*((wL c.2.2.1:Int):Rat)*val r.value<=val c.2.2.2:=by
 have hAl:(stA q V L).length=q+1:=by simp[stA]
 have hj:j<(Bs V L).length:=by unfold Bs;rw[List.length_map];exact(List.getElem?_eq_some_iff.1 h).1
 have zU:=hc.wX j hj;have e1:o4 (Bs V L) j=val c.2.2.2:=by unfold o4;rw[kA h]
 have F0:=hc.yb;rw[hAl]at zU F0;have hv:val r.value=o4 r.Y q:=by
  rw[F0,cV (show q<q+1 by omega) (fun i hi hne=>by
   have e:(CW q)[i]?.getD 0=0:=by
    unfold CW;rw[List.getElem?_map,List.getElem?_range hi,Option.map_some,Option.getD_some];rw[show decide (i=q)=false from decide_eq_false hne];rfl
   rw[e];grind)]
  have e:(CW q)[q]?.getD 0=1:=by
   unfold CW;rw[List.getElem?_map,List.getElem?_range b9,Option.map_some,Option.getD_some];rw[show decide (q=q)=true from decide_eq_true rfl];rfl
  rw[e];grind
 have e2:o0 (fun i=>o4 r.Y i*(C4 (stA q V L) i j:Rat)) (q+1)=- (((c.2.1:Int):Rat)*zs q (fun i=>- o4 r.Y i) c.1)+((c.2.1:Int):Rat)*((wL c.2.2.1:Int):Rat)*val r.value:=by
  simp only[o0];have e3:o0 (fun i=>o4 r.Y i*(C4 (stA q V L) i j:Rat)) q=- (((c.2.1:Int):Rat)*zs q (fun i=>- o4 r.Y i) c.1):=by
   unfold zs;rw[<-cK,<-eH];refine aq fun i hi=>?_
   rw[kB h b9,Rat.intCast_mul];unfold Gj;rw[if_pos hi]
   grind
  rw[e3,kB h b9,Rat.intCast_mul,hv];unfold Gj;rw[if_neg b9]
  grind
 rw[e2,e1]at zU;exact zU
theorem KO{p:Int}(h:xH p V L=true)(hs:(ap p.toNat V L).status=1):
 eP p.toNat V (bJ V L (ap p.toNat V L)) (fun i=>- o4 (ap p.toNat V L).Y i)/\∀s∈wV V L,xx p.toNat V (fun i=>- o4 (ap p.toNat V L).Y i) s<=- val (ap p.toNat V L).value:=by
 obtain⟨hg,Rn,_,_⟩:=fu h;obtain⟨h1,_,hpn,_,_,O⟩:=fM hg;obtain⟨v1,_,v3,_,v5,_⟩:=eA hs;have G:=nK v1 v3 hs;change Cert (stA p.toNat V L) (CW p.toNat) (Bs V L) (ap p.toNat V L)at G;have D':dE p V L=true:=by unfold xH at h;simp only[Bool.and_eq_true]at h;exact h.1
 have Ea:=me D' rfl h1 O;rw[h]at Ea;have Ea:=List.all_eq_true.1 Ea.symm;have K:=gD rfl h1 O L;have R:∀s∈wV V L,xx p.toNat V (fun i=>- o4 (ap p.toNat V L).Y i) s<=- val (ap p.toNat V L).value:=fun s hsm=>by
  obtain⟨j,hj,rfl⟩:=List.getElem_of_mem hsm;have I:(bZ V L)[j]?=some ((wV V L)[j],1,true,-(V[((wV V L)[j]).toNat]?.getD 0),1):=by
   unfold wV at hj⊢;rw[<-K,List.getElem?_append_left (by rw[ch];exact hj)];unfold bu;rw[List.getElem?_map,List.getElem?_eq_getElem hj]
   rfl
  have hd:=ox G I;unfold xx;have e1:(((1:Int)):Rat)=1:=rfl;have e2:((wL true:Int):Rat)=1:=rfl;change-(((1:Int):Rat)*zs p.toNat (fun i=>- o4 (ap p.toNat V L).Y i) (wV V L)[j])+((1:Int):Rat)*((wL true:Int):Rat)*val (ap p.toNat V L).value<=val (-(V[((wV V L)[j]).toNat]?.getD 0),1)at hd;rw[bp,Rat.intCast_neg,e1,e2]at hd
  grind
 have Xs:∀f∈zJ V.length L,xx p.toNat V (fun i=>- o4 (ap p.toNat V L).Y i) f.1=val f.2:=fun f hf=>by
  have xR:∀c∈y6 f.1 (cD V f),∃j:Nat,(bZ V L)[j]?=some c:=fun c hc=>by
   have:c∈bZ V L:=by
    rw[<-K];refine List.mem_append.2 (.inr ?_);unfold aN;exact List.mem_flatMap.2 ⟨f,hf,hc⟩
   exact List.mem_iff_getElem?.1 this
  have hff:=Ea f hf;unfold EV at hff;obtain⟨a1,a2,a3,a4⟩:=fW hff;rw[bp]at a4;have Fm:val (cD V f)=val f.2-((V[f.1.toNat]?.getD 0:Int):Rat):=a4;obtain⟨j1,Ru⟩:=xR (f.1,1,false,(cD V f).1,(cD V f).2) (by unfold y6;simp);obtain⟨j2,W⟩:=xR (f.1,-1,false,-(cD V f).1,(cD V f).2) (by unfold y6;simp);have d1:=ox G Ru;have d2:=ox G W;change-(((1:Int):Rat)*zs p.toNat (fun i=>- o4 (ap p.toNat V L).Y i) f.1)+((1:Int):Rat)*((wL false:Int):Rat)*val (ap p.toNat V L).value<=val (cD V f)at d1;change-(((-1:Int):Rat)*zs p.toNat (fun i=>- o4 (ap p.toNat V L).Y i) f.1)+((-1:Int):Rat)*((wL false:Int):Rat)*val (ap p.toNat V L).value<=val (wR (cD V f))at d2;have e1:(((1:Int)):Rat)=1:=rfl;have e2:((wL false:Int):Rat)=0:=rfl;have e3:(((-1:Int)):Rat)=-1:=rfl;rw[cH]at d2;rw[Fm,e1,e2]at d1;rw[Fm,e2,e3]at d2;unfold xx
  grind
 have hmL:eP p.toNat V L (fun i=>- o4 (ap p.toNat V L).Y i):=by
  refine⟨?_,fun f hf=>Xs f (by unfold zJ;exact List.mem_append.2 (.inl hf))⟩;have:=Xs ((V.length:Int)-1,0,1) (by unfold zJ;simp);rw[this];exact bp 0
 refine⟨⟨hmL.zL,fun f hf=>?_⟩,R⟩;unfold bJ at hf
 rcases List.mem_append.1 hf with hf|hf
 ·exact hmL.fixed f hf
 ·unfold yf at hf;obtain⟨j,hj,rfl⟩:=List.mem_map.1 hf;obtain⟨zt,J⟩:=List.mem_filter.1 hj;have zt:=List.mem_range.1 zt;have J:=of_decide_eq_true J;obtain⟨k1,k2,U⟩:=fS h hs hmL
  show xx p.toNat V (fun i=>- o4 (ap p.toNat V L).Y i) ((wV V L)[j]?.getD 0)=val (wR (ap p.toNat V L).value);rw[cH]
  false_or_by_contra
  rename_i hne
  have hx:0<o4 (ap p.toNat V L).X j:=Q0 v3 hs J;obtain⟨i,hi,_,hlt⟩:=oW k2 U k1 zt hx hne;have:=R ((wV V L)[i]?.getD 0) (by rw[List.getElem?_eq_getElem hi,Option.getD_some];exact List.getElem_mem hi)
  grind
def mB(u:Rat)(l:List Rat):Nat:=l.countP fun x=>decide (u<=x)
def mC(t:Rat)(l:List Rat):Nat:=l.countP fun x=>decide (t<x)
def FK(q:Nat)(V:j9)(z:Nat->Rat):List Rat:=(yk 1 (V.length-2)).map (xx q V z)
def More(a b:List Rat):Prop:=∃t,(∀u,t<u->mB u a<=mB u b)/\mC t a<mC t b
theorem qv(h:yw L s=true):∃f∈L,f.1=s:=by
 unfold yw at h;obtain⟨f,hf,he⟩:=List.any_eq_true.1 h;exact⟨f,hf,by simpa using he⟩
theorem Pn{q:Nat}{y:Nat->Rat}(hs:∀s,yw L s=true->xx q V y s=xx q V z s)(hy:∀s∈wV V L,xx q V y s<=t)(hz:∃s∈wV V L,t<xx q V z s):More (FK q V y) (FK q V z):=by
 have split:∀(g:Rat->Bool) (w:Nat->Rat),(FK q V w).countP g=(((yk 1 (V.length-2)).filter (yw L)).countP fun s=>g (xx q V w s))+((wV V L).countP fun s=>g (xx q V w s)):=fun g w=>by
  unfold FK wV bd;rw[List.countP_map];exact List.countP_eq_countP_filter_add _ _ _
 have same:∀g:Rat->Bool,(((yk 1 (V.length-2)).filter (yw L)).countP fun s=>g (xx q V y s))=(((yk 1 (V.length-2)).filter (yw L)).countP fun s=>g (xx q V z s)):=fun g=>by
  refine List.countP_congr fun s hm=>?_
  rw[hs s (List.mem_filter.1 hm).2]
 refine⟨t,fun u hu=>?_,?_⟩
 ·unfold mB;rw[split,split];have e:=same fun x=>decide (u<=x)
  rw[e];have h0:((wV V L).countP fun s=>decide (u<=xx q V y s))=0:=by
   rw[List.countP_eq_zero];intro s hm;have:=hy s hm;simp only[decide_eq_true_eq]
   grind
  rw[h0];omega
 ·unfold mC;rw[split,split];have e:=same fun x=>decide (t<x)
  rw[e];have h0:((wV V L).countP fun s=>decide (t<xx q V y s))=0:=by
   rw[List.countP_eq_zero];intro s hm;have:=hy s hm;simp only[decide_eq_true_eq]
   grind
  have h1:0<((wV V L).countP fun s=>decide (t<xx q V z s)):=by
   rw[List.countP_pos_iff];obtain⟨s,hm,hs⟩:=hz;exact⟨s,hm,decide_eq_true hs⟩
  rw[h0];omega
theorem nu{p:Int}(h:xH p V L=true)(hs:(ap p.toNat V L).status=1){y:Nat->Rat}(hy:eP p.toNat V L y)(Zz:∀s∈wV V L,xx p.toNat V y s<=- val (ap p.toNat V L).value)(hz:eP p.toNat V L z):
 eP p.toNat V (bJ V L (ap p.toNat V L)) z∨More (FK p.toNat V y) (FK p.toNat V z):=by
 obtain⟨v1,_,v3,_⟩:=eA hs;by_cases An:∀j,j<(wV V L).length->0<((ap p.toNat V L).X[j]?.getD (0,0)).1->xx p.toNat V z ((wV V L)[j]?.getD 0)=- val (ap p.toNat V L).value
 ·refine .inl ⟨hz.zL,fun f hf=>?_⟩;unfold bJ at hf
  rcases List.mem_append.1 hf with hf|hf
  ·exact hz.fixed f hf
  ·unfold yf at hf;obtain⟨j,hj,rfl⟩:=List.mem_map.1 hf;obtain⟨zt,G⟩:=List.mem_filter.1 hj;have:=An j (List.mem_range.1 zt) (of_decide_eq_true G)
   show xx p.toNat V z ((wV V L)[j]?.getD 0)=val (wR (ap p.toNat V L).value);rw[cH];exact this
 ·refine .inr ?_;obtain⟨j,hj⟩:=Classical.not_forall.1 An;obtain⟨zt,hj⟩:=Classical.not_imp.1 hj;obtain⟨G,hne⟩:=Classical.not_imp.1 hj;obtain⟨k1,k2,I⟩:=fS h hs hz;obtain⟨i,hi,_,hlt⟩:=oW k2 I k1 zt (Q0 v3 hs G) hne;refine Pn (L:=L) (fun s S7=>?_) Zz ⟨(wV V L)[i]?.getD 0,by rw[List.getElem?_eq_getElem hi,Option.getD_some];exact List.getElem_mem hi,hlt⟩;obtain⟨f,hf,rfl⟩:=qv S7;rw[hy.fixed f hf,hz.fixed f hf]
theorem qu(L T:j5)(s:Int):yw (L++T) s=(yw L s||yw T s):=by unfold yw;rw[List.any_append]
theorem vd{T:j5}(h:s∈wV V L):s∈wV V (L++T)∨∃f∈T,f.1=s:=by
 unfold wV bd at h⊢;obtain⟨h1,h2⟩:=List.mem_filter.1 h;cases ht:yw T s with
 | true=>exact .inr (qv ht)
 | false =>
   refine .inl (List.mem_filter.2 ⟨h1,?_⟩);rw[qu,ht,Bool.or_false];exact h2
theorem vL{T:j5}(h:s∈wV V (L++T)):s∈wV V L:=by
 unfold wV bd at h⊢;obtain⟨h1,h2⟩:=List.mem_filter.1 h;refine List.mem_filter.2 ⟨h1,?_⟩;rw[qu]at h2;cases hl:yw L s with
 | true=>rw[hl]at h2;cases h2
 | false=>rfl
theorem fi{p:Int}{V:j9}:∀{f k:Nat} {L:j5},(wP p V f L k).ok=true ->
 eP p.toNat V (wP p V f L k).st (fun i=>val ((wP p V f L k).pt[i]?.getD (0,0)))/\(∀g∈L,g∈(wP p V f L k).st) /\
 (∀s∈wV V L,xx p.toNat V (fun i=>val ((wP p V f L k).pt[i]?.getD (0,0))) s<=- val (ap p.toNat V L).value) /\
 ∀z,eP p.toNat V L z->eP p.toNat V (wP p V f L k).st z∨More (FK p.toNat V (fun i=>val ((wP p V f L k).pt[i]?.getD (0,0)))) (FK p.toNat V z)
 | 0,k,L,h=>by cases h
 | f+1,k,L,h=>by
   by_cases xq:xH p V L=true/\(ap p.toNat V L).status=1
   ·obtain⟨p1,p2⟩:=KO xq.1 xq.2;by_cases hd:dg p V (bJ V L (ap p.toNat V L))=true
    ·have e:wP p V (f+1) L k=⟨true,Lp p.toNat (ap p.toNat V L),bJ V L (ap p.toNat V L),k+1⟩:=by rw[wP,if_pos xq,if_pos hd]
     rw[e];have G:∀s,xx p.toNat V (fun i=>val ((Lp p.toNat (ap p.toNat V L))[i]?.getD (0,0))) s=xx p.toNat V (fun i=>- o4 (ap p.toNat V L).Y i) s:=fun s=>by
      unfold xx zs
      congr 1
      refine aq fun i hi=>?_
      obtain⟨_,_,_,v4,_⟩:=eA xq.2;have R:i<(ap p.toNat V L).Y.length:=by
       have:(ap p.toNat V L).Y.length=(CW p.toNat).length:=v4;rw[this];unfold CW;simp;omega
      have e9:(Lp p.toNat (ap p.toNat V L))[i]?.getD (0,0)=wR ((ap p.toNat V L).Y[i]?.getD (0,0)):=by
       unfold Lp;rw[List.getElem?_map,List.getElem?_take,if_pos hi,List.getElem?_eq_getElem R]
       rfl
      show val ((Lp p.toNat (ap p.toNat V L))[i]?.getD (0,0))*_=- o4 (ap p.toNat V L).Y i*_;rw[e9,cH]
      rfl
     refine⟨⟨by show xx _ _ _ _=0;rw[G];exact p1.zL,fun g hg=>by show xx _ _ _ _=_;rw[G];exact p1.fixed g hg⟩,fun g hg=>List.mem_append.2 (.inl hg),fun s hs=>by rw[G];exact p2 s hs,fun z hz=>?_⟩;refine nu xq.1 xq.2 ⟨by rw[G];exact p1.zL,fun g hg=>by rw[G];exact p1.fixed g (List.mem_append.2 (.inl hg))⟩ (fun s hs=>by rw[G];exact p2 s hs) hz
    ·have e:wP p V (f+1) L k=wP p V f (bJ V L (ap p.toNat V L)) (k+1):=by rw[wP,if_pos xq,if_neg hd]
     rw[e]at h⊢;obtain⟨i1,i2,i3,i4⟩:=fi h;have J:xH p V (bJ V L (ap p.toNat V L))=true/\(ap p.toNat V (bJ V L (ap p.toNat V L))).status=1:=by
      false_or_by_contra
      rename_i I
      cases f with
      | zero=>cases h
      | succ f =>
        rw[wP,if_neg I]at h;cases h
     have heps:- val (ap p.toNat V (bJ V L (ap p.toNat V L))).value<=- val (ap p.toNat V L).value:=by
      obtain⟨k1,k2,K⟩:=fS J.1 J.2 p1;rw[<-k1];refine kM k2 K fun j hj=>p2 _ ?_
      refine vL (T:=yf (wV V L) (ap p.toNat V L) (wV V L).length) ?_
      show(wV V (bJ V L (ap p.toNat V L)))[j]?.getD 0∈wV V (bJ V L (ap p.toNat V L));rw[List.getElem?_eq_getElem hj,Option.getD_some];exact List.getElem_mem hj
     have Zz:∀s∈wV V L,xx p.toNat V (fun i=>val ((wP p V f (bJ V L (ap p.toNat V L)) (k+1)).pt[i]?.getD (0,0))) s<=- val (ap p.toNat V L).value:=fun s hs=>by
      rcases vd (T:=yf (wV V L) (ap p.toNat V L) (wV V L).length) hs with D4|⟨g,hg,rfl⟩
      ·exact Rat.le_trans (i3 s D4) heps
      ·have O:=i1.fixed g (i2 g (List.mem_append.2 (.inr hg)));rw[O];unfold yf at hg;obtain⟨j,_,rfl⟩:=List.mem_map.1 hg
       show val (wR (ap p.toNat V L).value)<=_;rw[cH];exact Rat.le_refl
     refine⟨i1,fun g hg=>i2 g (List.mem_append.2 (.inl hg)),Zz,fun z hz=>?_⟩
     rcases nu xq.1 xq.2 ⟨i1.zL,fun g hg=>i1.fixed g (i2 g (List.mem_append.2 (.inl hg)))⟩ Zz hz with hm|hm
     ·exact i4 z hm
     ·exact .inr hm
   ·have e:wP p V (f+1) L k=BK.no:=by rw[wP,if_neg xq]
    rw[e]at h;cases h
end Go.Proofs.YtalmoolkhcgmmaaGreat
