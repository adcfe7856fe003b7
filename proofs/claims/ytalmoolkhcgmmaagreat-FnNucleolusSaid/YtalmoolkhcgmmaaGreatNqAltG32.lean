import Derived.Test.YtalmoolkhcgmmaaGreatNqAltG31
import Derived.Test.YtalmoolkhcgmmaaGreatNqAltG6
set_option linter.unusedVariables false
set_option linter.unusedSimpArgs false
namespace Go.Proofs.YtalmoolkhcgmmaaGreat
variable{A:j7}{B:j9}{n:Nat}
theorem vU(h:E0 A B n){t:Tb}(ht:TB n A.length (GL A B) t)(ha:QZ n A.length t){f:j6}(hf:eJ (n+A.length+1) f)(R:∀j,j<=n+A.length->o4 f j=0)(O:Int):
 aD bj A B (dP n) ⟨1,(xV t).take n,(List.range B.length).map (dm B f n),[],wR (f[n+A.length]?.getD (0,0)),O⟩=true:=by
 obtain⟨m,hm⟩:=b8 A.length;have hn16:=h.n16;have hm4:=h.m4;have Cw:∀j,j<=n+m->f[j]?.getD (0,0)=(0,1):=fun j hj=>fV (hf.2 j b9) kD (by rw[eK];exact R j b9)
 have hY:∀k,k<m->((List.range B.length).map (dm B f n))[k]?.getD (0,0)=(0,1):=fun k hk=>by
  rw[List.getElem?_map,List.getElem?_range (by rw[h.zP];omega),Option.map_some,Option.getD_some];unfold dm Ac;rw[Cw (n+k) b9]
  split<;>rfl
 have RD:((List.range B.length).map (dm B f n)).length=m:=by simp[h.zP,hm]
 have Wy:xV t=yM t m:=by unfold xV;rw[if_pos (ht.inv.ok b9),ht.inv.len,hm]
 obtain⟨K,J⟩:=tB ht m b9;have I:((xV t).take n).length=n:=by rw[Wy,List.length_take,K];omega
 have hXat:∀j,j<n->((xV t).take n)[j]?.getD (0,0)=(yM t m)[j]?.getD (0,0):=fun j hj=>by rw[Wy,List.getElem?_take_of_lt hj]
 have XQ:∀j,j<n->o5 (((xV t).take n)[j]?.getD (0,0))=true/\o4 ((xV t).take n) j=o0 (fun i=>if bQ t i=j then TQ t i (n+A.length) else 0) m:=fun j hj=>by
  have:=J j b9;unfold o4 at this⊢;rw[hXat j hj];exact this
 have hsm:=ht.fd.small ht.m4 ht.w0 ht.w1 b9;have G:∀i k,i<m->k<m->bQ t i=bQ t k->i=k:=fun i k hi hk e=>by
  have h1:=ht.fd.unit i i b9 b9;have h2:=ht.fd.unit i k b9 b9;rw[<-e,h1,if_pos rfl]at h2;by_cases g:i=k
  ·exact g
  ·rw[if_neg g]at h2;exact absurd h2 (by decide)
 have RE:∀j,j<n->o4 ((xV t).take n) j=0∨∃i,i<m/\o4 ((xV t).take n) j=TQ t i (n+A.length):=fun j hj=>by
  rw[(XQ j hj).2];by_cases e:∃i,i<m/\bQ t i=j
  ·obtain⟨i,hi,e⟩:=e;refine Or.inr ⟨i,hi,?_⟩;rw[cV hi (fun k hk hne=>if_neg (fun e2=>hne (G k i hk hi (by rw[e2,e])))),if_pos e]
  ·refine Or.inl (cv fun i hi=>if_neg (fun e2=>e ⟨i,hi,e2⟩))
 have hXw:∀j,j<n->Wh (o4 ((xV t).take n) j*AN (y3 A.length (GL A B) (bQ t))) 336:=fun j hj=>by
  rcases RE j hj with e|⟨i,hi,e⟩
  ·rw[e,Rat.zero_mul];exact Wh.zero _
  ·rw[e];exact hsm.2 i _ b9 (Nat.le_refl _)
 have hX0:∀j,j<n->0<=o4 ((xV t).take n) j:=fun j hj=>by
  rcases RE j hj with e|⟨i,hi,e⟩
  ·rw[e];exact Rat.le_refl
  ·rw[e];exact ht.pos i b9
 have Mx:∀k,k<m->o0 (fun j=>(((A[k]?.getD [])[j]?.getD 0:Int):Rat)*o4 ((xV t).take n) j) n=((B[k]?.getD 0:Int):Rat):=fun k hk=>by
  have hb:=ht.fd.back k (n+A.length) b9 (Nat.le_refl _);rw[ms h b9]at hb;have D4:=O3 (B[k]?.getD 0);have e1:o0 (fun j=>(((A[k]?.getD [])[j]?.getD 0:Int):Rat)*o4 ((xV t).take n) j) n=o0 (fun j=>o0 (fun i=>if bQ t i=j then(((A[k]?.getD [])[j]?.getD 0:Int):Rat)*TQ t i (n+A.length) else 0) m) n:=aq fun j hj=>by
   rw[(XQ j hj).2,<-cK];refine aq fun i hi=>?_
   split
   ·rfl
   ·rw[Rat.mul_zero]
  rw[e1,fU];have e2:o0 (fun i=>GL A B k (bQ t i)*TQ t i (n+A.length)) A.length=(ys (B[k]?.getD 0):Rat)*o0 (fun i=>o0 (fun j=>if bQ t i=j then(((A[k]?.getD [])[j]?.getD 0:Int):Rat)*TQ t i (n+A.length) else 0) n) m:=by
   rw[<-cK,hm];refine aq fun i hi=>?_
   by_cases Ck:bQ t i<n
   ·rw[cV Ck (fun j hj hne=>if_neg (fun e=>hne e.symm)),if_pos rfl,nD h b9 Ck];rw[Rat.mul_assoc]
   ·rw[ha i b9 b9,cv (fun j hj=>if_neg b9)]
    grind
  rw[e2]at hb;generalize o0 (fun i=>o0 (fun j=>if bQ t i=j then(((A[k]?.getD [])[j]?.getD 0:Int):Rat)*TQ t i (n+A.length) else 0) n) m=u at hb⊢;generalize((B[k]?.getD 0:Int):Rat)=b at hb⊢;generalize((ys (B[k]?.getD 0):Int):Rat)=s at hb D4
  grind
 have LZ:∀(Y L:j6),Y.length=L.length->Y.length<=70->(∀j,j<Y.length->Y[j]?.getD (0,0)=(0,1))->(∀j,j<Y.length->o5 (L[j]?.getD (0,0))=true)->wY Y L=some (0,1):=fun Y L hl hk hz hv=>by
  have hy:∀j,j<Y.length->o4 Y j=0:=fun j hj=>by unfold o4;rw[hz j hj];exact eK
  refine sM (D:=1) (x:=0) hl hk (Wh.one b9) (by decide) (fun j hj=>by rw[hz j hj];rfl) hv (fun j hj=>by rw[hy j hj];exact⟨0,by grind,by omega⟩) ?_ b9;rw[cv (fun j hj=>by rw[hy j hj,Rat.zero_mul])];rfl
 have zU:∀j k,j<n->k<m->(aw (xD A j))[k]?.getD (0,0)=((A[k]?.getD [])[j]?.getD 0,1):=fun j k hj hk=>by
  have C0:k<(xD A j).length:=by simp[xD];omega
  rw[fX C0,nL A j k b9]
 have EP:∀j,(aw (xD A j)).length=m:=fun j=>by rw[cz];simp[xD,hm]
 have Xt:dp A B (dP n).length ((xV t).take n)=true:=by
  unfold dp BC dj;rw[eE];simp only[Bool.and_eq_true,decide_eq_true_eq,List.all_eq_true,List.mem_range];refine⟨I,fun x hx=>?_,fun i hi=>?_⟩
  ·obtain⟨j,hj,rfl⟩:=List.mem_iff_getElem.1 hx;have Ah:j<n:=by rw[I]at hj;exact hj
   have h1:=(XQ j Ah).1;have h2:=hX0 j Ah;unfold o4 at h2;rw[List.getElem?_eq_getElem hj,Option.getD_some]at h1 h2;exact⟨h1,(eC h1).2 h2⟩
  ·have Cg:=h.row i hi;have hw:∀j,j<n->(aw (A[i]?.getD []))[j]?.getD (0,0)=((A[i]?.getD [])[j]?.getD 0,1):=fun j hj=>fX b9
   have hwv:∀j,j<n->o4 (aw (A[i]?.getD [])) j=(((A[i]?.getD [])[j]?.getD 0:Int):Rat):=fun j hj=>by unfold o4;rw[hw j hj,bp]
   refine sM (D:=AN (y3 A.length (GL A B) (bQ t))) (by rw[cz,Cg,I]) (by rw[cz,Cg];omega) hsm.1 ht.fd.Ot (fun j hj=>?_) (fun j hj=>?_) (fun j hj=>?_) ?_ (j4 (h.bnd i hi))
   ·rw[cz,Cg]at hj;rw[hw j hj];have:=h.C4 i j hi hj;exact eI _ b9 b9
   ·rw[cz,Cg]at hj;exact(XQ j hj).1
   ·rw[cz,Cg]at hj;rw[hwv j hj,Rat.mul_assoc];exact((Wh.mk _ (b:=1) (j4 (h.C4 i j hi hj))).mul (hXw j hj)).mono b9
   ·rw[cz,Cg,<-Mx i b9];exact aq fun j hj=>by rw[hwv j hj]
 unfold aD;rw[if_pos rfl,Xt,eE];simp only[Bool.true_and,Bool.and_eq_true,decide_eq_true_eq,List.all_eq_true,List.mem_range];refine⟨by simp,fun j hj=>?_,?_⟩
 ·unfold bj
  rw[LZ _ _ (by rw[RD,EP]) (by rw[RD];omega) (fun k hk=>hY k (by rw[RD]at hk;exact hk)) (fun k hk=>by
   rw[RD]at hk;rw[zU j k hj hk];have:=h.C4 k j b9 hj
   exact eI _ b9 b9),rK hj]
  decide
 ·unfold gR;rw[LZ (dP n) _ (by rw[eE,I]) (by rw[eE];omega) (fun j hj=>rK (by rw[eE]at hj;exact hj)) (fun j hj=>(XQ j (by rw[eE]at hj;exact hj)).1)];simp only
  rw[LZ _ (aw B) (by rw[RD,cz,h.zP,hm]) (by rw[RD];omega) (fun k hk=>hY k (by rw[RD]at hk;exact hk)) (fun k hk=>by
   rw[RD]at hk;rw[fX (by rw[h.zP];omega)];have:=h.bnd k b9
   exact eI _ b9 b9)]
  rw[<-hm,Cw (n+m) (Nat.le_refl _)]
  rfl
theorem wg(h:E0 A B n):
 (∃r,zf A B (dP n)=some r/\r.status=1/\aD bj A B (dP n) r=true) ∨
   ∃y:Nat->Rat,(∀j,j<n->o0 (fun k=>y k*(((A[k]?.getD [])[j]?.getD 0:Int):Rat)) A.length<=0)/\0<o0 (fun k=>y k*((B[k]?.getD 0:Int):Rat)) A.length:=by
 have h0:=KN h;have yq:Gh n A.length (bM n A.length):=Qs;obtain⟨p,e1,yi⟩:=vW h.n16 yq (fun j hj=>lE hj) h0;obtain⟨ht,K,O,_⟩:=ph yq 1000 _ p h0 e1;obtain⟨f,e2,I,J⟩:=gF ht yq;rw[K]at e2;obtain rfl:=Option.some.inj e2;have Ia:∀j,j<n->0<=fQ A.length (bM n A.length) p.t j:=by
  rw[ht.inv.q8]at O
  rcases lF I with⟨_,e⟩|⟨s,es,sn,R,_⟩
  ·exact fun j hj=>by rw[<-J j b9];exact e j hj
  ·exfalso
   rw[es]at O
   rcases O with hh|hh
   ·omega
   ·rcases qL ht (c:=s) b9 with⟨_,e⟩|⟨r,_,e,_,_⟩
    ·rw[J s b9]at R;unfold fQ at R;rw[kG yq b9,lE sn]at R;have:o0 (fun i=>o4 (bM n A.length) (bQ p.t i)*TQ p.t i s) A.length<=o0 (fun _=>0) A.length:=fw fun i hi=>by
      have h1:=e i hi
      rcases yq.two (bQ p.t i) (ht.fd.Dk i hi)with g|g
      ·rw[g];grind
      ·rw[g];grind
     rw[cv (fun _ _=>rfl)]at this
     grind
    ·omega
 have hred:=qm ht yq;by_cases yP:fQ A.length (bM n A.length) p.t (n+A.length)<0
 ·refine Or.inr ?_;obtain⟨M,U⟩:=hred;refine⟨fun k=>- (M k*(ys (B[k]?.getD 0):Rat)),fun j hj=>?_,?_⟩
  ·have h1:=U j b9;have h2:=Ia j hj;rw[h1,kG yq b9,lE hj]at h2;have e:o0 (fun k=>-(M k*(ys (B[k]?.getD 0):Rat))*(((A[k]?.getD [])[j]?.getD 0:Int):Rat)) A.length=- o0 (fun l=>M l*GL A B l j) A.length:=by
    rw[<-eH];exact aq fun k hk=>by rw[nD h hk hj];grind
   rw[e];grind
  ·have h1:=U (n+A.length) (Nat.le_refl _);rw[h1,mw yq]at yP;have e:o0 (fun k=>-(M k*(ys (B[k]?.getD 0):Rat))*((B[k]?.getD 0:Int):Rat)) A.length=- o0 (fun l=>M l*GL A B l (n+A.length)) A.length:=by
    rw[<-eH];exact aq fun k hk=>by rw[ms h hk];grind
   rw[e];grind
 ·refine Or.inl ?_;have u:QZ n A.length p.t:=fun i hi hb=>by
   unfold fQ at yP;rw[mw yq]at yP;have Jy:∀k,k<A.length->0<=o4 (bM n A.length) (bQ p.t k)*TQ p.t k (n+A.length):=fun k hk=>by
    have h1:=ht.pos k hk
    rcases yq.two (bQ p.t k) (ht.fd.Dk k hk)with g|g
    ·rw[g];grind
    ·rw[g];grind
   have hle:o0 (fun k=>if k=i then o4 (bM n A.length) (bQ p.t i)*TQ p.t i (n+A.length) else 0) A.length<=o0 (fun k=>o4 (bM n A.length) (bQ p.t k)*TQ p.t k (n+A.length)) A.length:=fw fun k hk=>by
    split
    ·next e=>rw[e];exact Rat.le_refl
    ·exact Jy k hk
   rw[cV hi (fun k hk hne=>if_neg hne),if_pos rfl,Nq hb (ht.fd.Dk i hi)]at hle;have h1:=ht.pos i hi
   grind
  obtain⟨s,e3,hs,Z,_⟩:=qi ht u (f:=p.left) (j4 h.m4) A.length (Nat.le_refl _);obtain⟨g,e4,G,W⟩:=gF hs (nJ (n:=n) (m:=A.length));have e5:aJ (bK (dP n) A.length) s.2 s.1=some ⟨s.1,s.2,g,-1⟩:=by
   have hen:aX g s.1.q8<0:=by
    rw[hs.inv.q8]
    rcases lF G with⟨e,_⟩|⟨j,_,hj,hn,_⟩
    ·rw[e];decide
    ·rw[W j b9,Nc hs b9]at hn;exact absurd hn (by decide)
   unfold aJ;rw[e4];simp only;rw[if_pos hen]
  refine⟨_,?_,?_,vU h hs Z G (fun j hj=>by rw[W j hj];exact Nc hs hj) (1000-s.2)⟩
  ·unfold zf;rw[eE,h.zP,e1];simp only[Option.bind_some]
   have F4:¬(p.costs[n+A.length]?.getD (0,0)).1<0:=fun hh=>yP (by
    rw[<-J _ (Nat.le_refl _)];refine Rat.not_le.1 fun h2=>?_
    have:=(eC (I.2 (n+A.length) b9)).2 h2
    omega)
   rw[if_neg F4,e3];simp only[Option.bind_some];rw[e5];simp only[Option.map_some];rw[if_neg (by decide)]
  ·rfl
theorem sD(h:E0 A B n)(G:¬∃y:Nat->Rat,(∀j,j<n->o0 (fun k=>y k*(((A[k]?.getD [])[j]?.getD 0:Int):Rat)) A.length<=0)/\0<o0 (fun k=>y k*((B[k]?.getD 0:Int):Rat)) A.length):
 (eB A B (dP n)).status=1:=by
 rcases wg h with⟨r,e,hs,hc⟩|hy
 ·rw[pF];unfold bV;rw[if_pos h.ok,e];simp only;rw[if_pos hc];exact hs
 ·exact absurd hy G
set_option maxRecDepth 100000
open Go.RowKit
section
variable{w:World}{base g:Nat}{vb vc:Value}{vs:List Value}{A:j7}{B:j9}{C:j6}
theorem xE.putA{w1 I:World}{G N cap:Nat}(h:xE w base g (.slice (some ⟨G,0,none⟩) N cap) vb vc vs A B C)(hx:Ext w w1){k:Nat}(hk:k<N){J:Value}{r:j9}(zF:w1.grownBy I (vs[k]?.getD undef).ownBlock)(ho:o8 I base J r)(hn:Aw w1 (vs[k]?.getD undef) J):
 xE (I.setCell ⟨G,k,none⟩ J) base g (.slice (some ⟨G,0,none⟩) N cap) vb vc (vs.set k J) (A.set k r) B C:=by
 have h1:=h.ext hx;have F1:k<vs.length:=by rw[h.a.len];exact hk
 have yQ:k<A.length:=by rw[<-h.rows.len];exact F1
 have J6:=h1.rows.row k yQ;have yR:I.heap[g]?=some (.cells #[.slice (some ⟨G,0,none⟩) N cap,vb,vc] 52 (0,0)):=(zF.block g h1.lt (h1.neR yQ)).trans h1.box;have zi:∀j,j≠G->(I.setCell ⟨G,k,none⟩ J).heap[j]?=I.heap[j]?:=fun j hj=>heap_setCell_other _ _ _ _ hj
 have ES:xe I base (.slice (some ⟨G,0,none⟩) N cap) vs:=h1.a.keep fun j hj=>zF.block j (h1.a.lt j hj).2 fun e=>J6.apart h1.a j e.symm hj
 have zx:o8 I base vb B:=h1.b.keep fun j hj=>zF.block j (h1.b.lt j hj).2 fun e=>h1.off k j F1 e.symm hj
 have AZ:l8 I base vc C:=h1.c.keep fun j hj=>zF.block j (h1.c.lt j hj).2 fun e=>aY (by decide) h1.c J6 j hj e.symm
 have AX:∀i,i<A.length->i≠k->o8 I base (vs[i]?.getD undef) (A[i]?.getD []):=fun i hi DU=>(h1.rows.row i hi).keep fun j hj=>zF.block j ((h1.rows.row i hi).lt j hj).2 fun e=>h1.rows.apart' DU hi yQ hj e.symm
 have hnk:∀i j,i<A.length->i≠k->(vs[i]?.getD undef).ownBlock=some j->J.ownBlock≠some j:=by
  intro i j hi DU hj hj'
  rcases hn j hj' with e|e
  ·exact h1.rows.apart' DU hi yQ hj e
  ·have:=((h1.rows.row i hi).lt j hj).2;omega
 have hgG:g≠G:=fun e=>h1.neA (by subst e;rfl)
 refine⟨(zi g hgG).trans yR,h.hg,?_,⟨by rw[List.length_set,List.length_set];exact h.rows.len,fun i hi=>?_,fun a b j JF hb2' hj FG=>?_⟩,zx.keep fun j hj=>zi j fun e=>zx.apart ES j hj (by subst e;rfl),?_,AZ.keep fun j hj=>zi j fun e=>aY (by decide) AZ ES j hj (by subst e;rfl)⟩
 ·have K:=ES;unfold xe at K;rw[h.a.len]at K;have:=(World.ownsRow.stored K k J).1;unfold xe;rw[List.length_set,h.a.len];exact this
 ·rw[List.length_set]at hi;by_cases DU:i=k
  ·subst DU;rw[List.getElem?_set_self F1,List.getElem?_set_self yQ];exact ho.keep fun j hj=>zi j fun e=>ho.apart ES j hj (by subst e;rfl)
  ·rw[List.getElem?_set_ne (Ne.symm DU),List.getElem?_set_ne (Ne.symm DU)];exact(AX i hi DU).keep fun j hj=>zi j fun e=>(AX i hi DU).apart ES j hj (by subst e;rfl)
 ·rw[List.length_set]at hb2';by_cases O:a=k
  ·subst O;rw[List.getElem?_set_self F1]at hj;rw[List.getElem?_set_ne b9]at FG;exact hnk b j hb2' b9 FG hj
  ·rw[List.getElem?_set_ne (Ne.symm O)]at hj;by_cases Df:b=k
   ·subst Df;rw[List.getElem?_set_self F1]at FG;exact hnk a j b9 O hj FG
   ·rw[List.getElem?_set_ne (Ne.symm Df)]at FG;exact h.rows.apart a b j JF hb2' hj FG
 ·intro i j hi hj hj';rw[List.length_set]at hi;by_cases DU:i=k
  ·subst DU;rw[List.getElem?_set_self F1]at hj
   rcases hn j hj with e|e
   ·exact h1.off i j hi e hj'
   ·have:=(h1.b.lt j hj').2;omega
  ·rw[List.getElem?_set_ne (Ne.symm DU)]at hj;exact h1.off i j hi hj hj'
theorem xE.VT{w1 I:World}{G N cap:Nat}(h:xE w base g (.slice (some ⟨G,0,none⟩) N cap) vb vc vs A B C)(hx:Ext w w1){k:Nat}(hk:k<N)(zF:w1.grownBy I (vs[k]?.getD undef).ownBlock):
 I.cell? ⟨G,k,none⟩=some (vs[k]?.getD undef)/\I.frozen? ⟨G,k,none⟩=false:=by
 have h1:=h.ext hx;have F1:k<vs.length:=by rw[h.a.len];exact hk
 have yQ:k<A.length:=by rw[<-h.rows.len];exact F1
 have J6:=h1.rows.row k yQ;have ES:xe I base (.slice (some ⟨G,0,none⟩) N cap) vs:=h1.a.keep fun j hj=>zF.block j (h1.a.lt j hj).2 fun e=>J6.apart h1.a j e.symm hj
 constructor
 ·obtain⟨G',J,_,hc⟩:=ES.cell hk;simp only[Option.some.injEq,Addr.mk.injEq,and_true]at J;subst J;rw[hc k hk];simp[F1]
 ·rcases ES.2 with⟨he,h0⟩|⟨g',cap',cur,he,hb,hg,_⟩
  ·simp only[Value.slice.injEq]at he;obtain⟨h3,_⟩:=he;cases h3
  ·simp only[Value.slice.injEq,Option.some.injEq,Addr.mk.injEq,and_true]at he;obtain⟨rfl,_⟩:=he;exact frozen_of_row I _ _ cur _ hg
end
end Go.Proofs.YtalmoolkhcgmmaaGreat
