import Derived.Test.YtalmoolkhcgmmaaGreatNqAltG30
import Derived.Test.YtalmoolkhcgmmaaGreatNqAltG14
set_option linter.unusedVariables false
set_option linter.unusedSimpArgs false
namespace Go.Proofs.YtalmoolkhcgmmaaGreat
variable{x:Rat}{a b c n k m i j:Nat}{d:Int}{A:j7}{B:j9}{T0:Nat->Nat->Rat}{t:Tb}{cost:j6}
def Sm(x:Rat)(a b:Nat):Prop:=∃D:Rat,Wh D b/\D≠0/\Wh (x*D) a
theorem Sm.mono{d:Nat}(h:Sm x a b)(h1:a<=c)(h2:b<=d):Sm x c d:=by
 obtain⟨D,G,h0,hx⟩:=h;exact⟨D,G.mono h2,h0,hx.mono h1⟩
theorem Sm.mul{y:Rat}{d:Nat}(h:Sm x a b)(k:Sm y c d):Sm (x*y) (a*c) (b*d):=by
 obtain⟨D,I,h0,hx⟩:=h;obtain⟨E,G,k0,hy⟩:=k;refine⟨D*E,I.mul G,fun e=>?_,?_⟩
 ·rcases Rat.mul_eq_zero.1 e with e|e
  ·exact h0 e
  ·exact k0 e
 ·rw[show x*y*(D*E)=(x*D)*(y*E)by grind];exact hx.mul hy
theorem Sm.neg(h:Sm x a b):Sm (-x) a b:=by
 obtain⟨D,G,h0,hx⟩:=h;exact⟨D,G,h0,by rw[show -x*D=-(x*D)by grind];exact hx.neg⟩
theorem Sm.ints{n:Int}(hd:d≠0)(hx:x=(n:Rat)/(d:Rat))(h:Sm x a b):∃z k:Int,0<k/\k<=b/\-(a:Int)<=z/\z<=a/\n*k=z*d:=by
 obtain⟨D,⟨k,rfl,hk⟩,h0,⟨z,hz,Bt⟩⟩:=h;have FF:k≠0:=fun e=>h0 (by rw[e];rfl)
 have hdq:=dO hd;have e:n*k=z*d:=by
  have h1:(n:Rat)*(k:Rat)=(z:Rat)*(d:Rat):=by rw[<-hz,hx];grind
  exact_mod_cast h1
 by_cases hp:0<k
 ·exact⟨z,k,hp,by omega,by omega,by omega,e⟩
 ·exact⟨-z,-k,by omega,by omega,by omega,by omega,by rw[Int.mul_neg,Int.neg_mul,e]⟩
theorem jd{n:Int}(hd:0<d)(hn:-1000000000000000000<=n/\n<=1000000000000000000)(G:d<=1000000000000000000)(h:Sm ((n:Rat)/(d:Rat)) 1000000000 1000000000):(aL n d).2=true:=by
 obtain⟨z,k,h1,h2,h3,h4,e⟩:=Sm.ints (show d≠0 by omega) rfl h;obtain⟨r,hr,_⟩:=iE hd hn G h1 h2 ⟨h3,h4⟩ e;rw[hr]
theorem Li{n:Int}(hd:d≠0)(hn:-1000000000000000000<=n/\n<=1000000000000000000)(G:-1000000000000000000<=d/\d<=1000000000000000000)(h:Sm ((n:Rat)/(d:Rat)) 1000000000 1000000000):(aL n d).2=true:=by
 by_cases hp:0<d
 ·exact jd hp hn G.2 h
 ·rw[<-kt];refine jd b9 b9 b9 ?_;have e:((-n:Int):Rat)/((-d:Int):Rat)=(n:Rat)/(d:Rat):=by
   have:=dO hd;rw[Rat.intCast_neg,Rat.intCast_neg];grind
  rw[e];exact h
theorem ip{p:k5}(h:o5 p=true):((p.2:Int):Rat)≠0:=dO (j4 ((aQ h).1))
theorem LJ{p q:k5}(hp:o5 p=true)(hq:o5 q=true)(h:Sm (val p*val q) 1000000000 1000000000):(mulR p q).2=true:=by
 unfold mulR;rw[hp,hq,if_pos (show(true&&true)=true from rfl)];have b1:=aQ hp;have G:=aQ hq;refine jd (Int.mul_pos b9 b9) (gY b1.2.2.1 b1.2.2.2 G.2.2.1 G.2.2.2) (gY b9 b1.2.1 b9 G.2.1).2 ?_;have n1:=ip hp;have n2:=ip hq;have e:((p.1*q.1:Int):Rat)/((p.2*q.2:Int):Rat)=val p*val q:=by
  unfold val;rw[Rat.intCast_mul,Rat.intCast_mul];grind
 rw[e];exact h
theorem Nh{p q:k5}(hp:o5 p=true)(hq:o5 q=true)(h0:val q≠0)(h:Sm (val p/val q) 1000000000 1000000000):(yH p q).2=true:=by
 unfold yH;rw[hp,hq,if_pos (show(true&&true)=true from rfl)];have b1:=aQ hp;have G:=aQ hq;have n1:=ip hp;have n2:=ip hq;have Au:q.1≠0:=fun e=>h0 (by unfold val;rw[e];show((0:Int):Rat)/_=0;rw[show((0:Int):Rat)=0 from rfl];grind)
 have n3:=dO Au;refine Li (Int.mul_ne_zero b9 Au) (gY b1.2.2.1 b1.2.2.2 b9 G.2.1) (gY b9 b1.2.1 G.2.2.1 G.2.2.2) ?_;have e:((p.1*q.2:Int):Rat)/((p.2*q.1:Int):Rat)=val p/val q:=by
  unfold val;rw[Rat.intCast_mul,Rat.intCast_mul];grind
 rw[e];exact h
theorem rJ{p:k5}(hp:o5 p=true)(h:Sm (val p) a b):p.2<=b/\p.1.natAbs<=a:=by
 obtain⟨z,k,h1,h2,h3,h4,e⟩:=Sm.ints (show p.2≠0 by have:=(aQ hp).1;omega) rfl h;have hf:Fr p z k:=⟨hp,h1,e⟩;have:=hf.size;omega
theorem NF{p q:k5}(hp:o5 p=true)(hq:o5 q=true)(h1:Sm (val p) 1000000 1000)(h2:Sm (val q) 1000000 1000)(h:Sm (val p+val q) 1000000000 1000000000):(xP p q).2=true:=by
 unfold xP;rw[hp,hq,if_pos (show(true&&true)=true from rfl)];have b1:=aQ hp;have G:=aQ hq;have s1:=rJ hp h1;have s2:=rJ hq h2;have m1:=gY (x:=p.1) (y:=q.2) b1.2.2.1 b1.2.2.2 b9 G.2.1;have t1:(p.1*q.2).natAbs<=1000000*1000:=by rw[Int.natAbs_mul];exact Nat.mul_le_mul s1.2 b9
 have t2:(q.1*p.2).natAbs<=1000000*1000:=by rw[Int.natAbs_mul];exact Nat.mul_le_mul s2.2 b9
 refine jd (Int.mul_pos b9 b9) b9 (gY b9 b1.2.1 b9 G.2.1).2 ?_;have n1:=ip hp;have n2:=ip hq;have e:((p.1*q.2+q.1*p.2:Int):Rat)/((p.2*q.2:Int):Rat)=val p+val q:=by
  unfold val;rw[Rat.intCast_add,Rat.intCast_mul,Rat.intCast_mul,Rat.intCast_mul];grind
 rw[e];exact h
theorem Qp{A:j6}{p:k5}(h:∀j,j<A.length->(yH (A[j]?.getD (0,0)) p).2=true):∃r,Bo A p=some r :=
 ⟨_,jO (F:=fun j=>(yH (A[j]?.getD (0,0)) p).1) fun j hj=>by unfold DI;rw[if_pos (h j hj)]⟩
theorem O4{A B:j6}{k:k5}(hl:A.length=B.length)(h:∀j,j<A.length->(mulR k (B[j]?.getD (0,0))).2=true/\(xP (A[j]?.getD (0,0)) (mulR k (B[j]?.getD (0,0))).1).2=true):∃r,zo A k B=some r:=by
 unfold zo;rw[if_pos hl];exact⟨_,jO (F:=fun j=>(xP (A[j]?.getD (0,0)) (mulR k (B[j]?.getD (0,0))).1).1) fun j hj=>by unfold C6;rw[if_pos (h j hj)]⟩
theorem tx{A B:j6}{k:k5}{M:Nat}(hA:eJ M A)(hB:eJ M B)(hk:o5 k=true)(h1:∀j,j<M->Sm (val k*o4 B j) 1000000 1000)(h2:∀j,j<M->Sm (o4 A j) 1000000 1000)(h3:∀j,j<M->Sm (o4 A j+val k*o4 B j) 1000000000 1000000000):
 ∃r,zo A k B=some r/\eJ M r/\∀j,j<M->o4 r j=o4 A j+val k*o4 B j:=by
 obtain⟨r,hr⟩:=O4 (A:=A) (B:=B) (k:=k) (by rw[hA.1,hB.1]) (fun j hj=>by
  rw[hA.1]at hj;have m:=LJ hk (hB.2 j hj) ((h1 j hj).mono b9 b9);obtain⟨_,_,m3,m4⟩:=kS m
  refine⟨m,NF (hA.2 j hj) m3 (h2 j hj) (by rw[m4];exact h1 j hj) (by rw[m4];exact h3 j hj)⟩)
 obtain⟨s1,s2,G⟩:=kx hr;exact⟨r,hr,⟨by rw[s2,hA.1],fun j hj=>(G j (by rw[hA.1];exact hj)).1⟩,fun j hj=>(G j (by rw[hA.1];exact hj)).2⟩
def TQ(t:Tb)(i j:Nat):Rat:=o4 (t.row i) j
def bQ(t:Tb)(i:Nat):Nat:=(t.basis[i]?.getD 0).toNat
structure TB(n m:Nat)(T0:Nat->Nat->Rat)(t:Tb):Prop where
 inv:xY n m T0 t
 m4:m<=4
 n70:n<=70
 fd:FD m (n+m) T0 (TQ t) (bQ t)
 pos:∀i,i<m->0<=TQ t i (n+m)
 w0:∀k j,k<m->j<n+m->Wh (T0 k j) 1
 w1:∀k,k<m->Wh (T0 k (n+m)) 14
theorem TB.sm(h:TB n m T0 t)(hi:i<m)(hj:j<=n+m):Sm (TQ t i j) 336 24:=by
 have:=h.fd.small h.m4 h.w0 h.w1 b9;exact⟨_,this.1,h.fd.Ot,this.2 i j hi hj⟩
theorem TB.val(h:TB n m T0 t)(hi:i<m)(hj:j<=n+m):o5 (t.at i j)=true/\Go.Proofs.YtalmoolkhcgmmaaGreat.val (t.at i j)=TQ t i j:=⟨(h.inv.row i hi).2 j b9,rfl⟩
theorem mu(h:xY n m T0 t)(hi:i<m):t.basis[i]?.getD 0=(bQ t i:Int)/\bQ t i<n+m:=by
 have hl:=h.zP;have:=h.Dk _ (List.getElem_mem (show i<t.basis.length by omega));unfold bQ;rw[List.getElem?_eq_getElem b9,Option.getD_some];omega
theorem toQ{n m:Nat}{T0:Nat->Nat->Rat}{t:Tb}(h:TB n m T0 t){r c:Nat}(hr:r<m)(hc:c<n+m)(hp:TQ t r c≠0){main:j6}(hm:eJ (n+m+1) main)(G:∀j,j<=n+m->o4 main j=TQ t r j/TQ t r c):
 ∀k,k<=m->∃st,y7 t r c main k=some st/\st.length=m/\∀i,i<m->eJ (n+m+1) (st[i]?.getD [])/\∀j,j<=n+m->o4 (st[i]?.getD []) j=if i<k∨i=r then As (TQ t) r c i j else TQ t i j
 | 0,_=>by
   refine⟨_,rfl,by rw[List.length_set,h.inv.len],fun i hi=>?_⟩;rw[kP (by rw[h.inv.len];exact hr)];by_cases e:i=r
   ·rw[if_pos e];refine⟨hm,fun j hj=>?_⟩;rw[if_pos (Or.inr e),G j hj];unfold As;rw[if_pos e]
   ·rw[if_neg e];refine⟨h.inv.row i hi,fun j hj=>?_⟩;rw[if_neg b9];rfl
 | k+1,hk=>by
   obtain⟨st,e0,hl,hs⟩:=toQ h hr hc hp hm G k b9;simp only[y7,e0,Option.bind_some];unfold Jq;by_cases J:k=r∨t.at k c=(0,1)
   ·rw[if_pos J];refine⟨st,rfl,hl,fun i hi=>⟨(hs i hi).1,fun j hj=>?_⟩⟩;rw[(hs i hi).2 j hj];by_cases e1:i<k∨i=r
    ·rw[if_pos e1,if_pos b9]
    ·rw[if_neg e1];by_cases e2:i=k
     ·subst e2
      rcases J with e3|e3
      ·exact absurd (Or.inr e3) e1
      ·rw[if_pos b9];unfold As;have hz:TQ t i c=0:=by
        rw[<-(h.val hi (show c<=n+m by omega)).2,e3,bp];rfl
       rw[if_neg b9,hz];grind
     ·rw[if_neg b9]
   ·rw[if_neg J];have R:k≠r:=fun e=>J (Or.inl e)
    have hq:=h.fd.pivot h.m4 hr hc hp;have hsm:=hq.small h.m4 h.w0 h.w1 b9;have I:=h.val (i:=k) (j:=c) b9 b9;have O:∀j,j<=n+m->Sm (Go.Proofs.YtalmoolkhcgmmaaGreat.val (wR (t.at k c))*o4 main j) 1000000 1000:=fun j hj=>by
     rw[cH,I.2,G j hj];have h1:Sm (As (TQ t) r c r j) 336 24:=⟨_,hsm.1,hq.Ot,hsm.2 r j hr hj⟩;unfold As at h1;rw[if_pos rfl]at h1;exact(((h.sm (i:=k) b9 (show c<=n+m by omega)).neg).mul h1).mono b9 b9
    obtain⟨rw',e1,K,v1⟩:=tx (M:=n+m+1) (h.inv.row k b9) hm (by rw[cX];exact I.1) (fun j hj=>O j b9)
     (fun j hj=>(h.sm (i:=k) (j:=j) b9 b9).mono b9 b9)
     (fun j hj=>by
       rw[cH,I.2,G j b9];have h1:Sm (As (TQ t) r c k j) 336 24:=⟨_,hsm.1,hq.Ot,hsm.2 k j b9 b9⟩;unfold As at h1;rw[if_neg R]at h1;have e:o4 (t.row k) j+-TQ t k c*(TQ t r j/TQ t r c)=TQ t k j-TQ t k c*(TQ t r j/TQ t r c):=by unfold TQ;grind
       rw[e];exact h1.mono b9 b9)
    rw[e1];refine⟨_,rfl,by rw[List.length_set,hl],fun i hi=>?_⟩;rw[kP (by rw[hl];omega)];by_cases e2:i=k
    ·rw[if_pos e2];refine⟨K,fun j hj=>?_⟩;rw[v1 j b9,if_pos b9,cH,I.2,G j hj];unfold As;rw[if_neg b9,e2];unfold TQ;grind
    ·rw[if_neg e2];refine⟨(hs i hi).1,fun j hj=>?_⟩;rw[(hs i hi).2 j hj];by_cases e3:i<k∨i=r
     ·rw[if_pos e3,if_pos b9]
     ·rw[if_neg e3,if_neg b9]
theorem qY(h:TB n m T0 t){r:Nat}(hr:r<m)(hc:c<n+m)(hp:TQ t r c≠0)(hb:∀i,i<m->0<=As (TQ t) r c i (n+m)):
 ∃t',bo t r c=some t'/\TB n m T0 t'/\(∀i j,i<m->j<=n+m->TQ t' i j=As (TQ t) r c i j)/\(∀i,i<m->bQ t' i=Dy (bQ t) r c i):=by
 have hq:=h.fd.pivot h.m4 hr hc hp;have hsm:=hq.small h.m4 h.w0 h.w1 b9;have G:=h.val (i:=r) (j:=c) hr b9
 obtain⟨main,e0⟩:=Qp (A:=t.row r) (p:=t.at r c) (fun j hj=>by
  rw[(h.inv.row r hr).1]at hj;refine Nh ((h.inv.row r hr).2 j hj) G.1 (by rw[G.2];exact hp) ?_;have h1:Sm (As (TQ t) r c r j) 336 24:=⟨_,hsm.1,hq.Ot,hsm.2 r j hr b9⟩;unfold As at h1;rw[if_pos rfl]at h1;rw[G.2]
  exact h1.mono b9 b9)
 obtain⟨d1,d2⟩:=oC e0;have I:=(h.inv.row r hr).1
 obtain⟨st,e1,hl,hs⟩:=toQ h hr hc hp (main:=main) ⟨by rw[d1,I],fun j hj=>(d2 j (by rw[I];exact hj)).1⟩ (fun j hj=>by
  rw[(d2 j (by rw[I];omega)).2.2,G.2];rfl) m (Nat.le_refl _)
 have e2:bo t r c=some ⟨st,t.basis.set r (c:Int),t.q8⟩:=by
  unfold bo;have ha:dN t r c=true:=by
   unfold dN;have hc':=h.inv.q8;have Xi:=h.inv.len;rw[h.inv.ok (j4 h.n70)];simp only[Bool.true_and,Bool.and_eq_true,wJ,decide_eq_true_eq];omega
  rw[if_pos ha];unfold fD;rw[Int.toNat_natCast,Int.toNat_natCast,e0];simp only[Option.bind_some];rw[h.inv.len,e1];rfl
 have hT:∀i j,i<m->j<=n+m->TQ ⟨st,t.basis.set r (c:Int),t.q8⟩ i j=As (TQ t) r c i j:=fun i j hi hj=>by
  show o4 (st[i]?.getD []) j=_;rw[(hs i hi).2 j hj,if_pos (Or.inl hi)]
 have hB:∀i,i<m->bQ ⟨st,t.basis.set r (c:Int),t.q8⟩ i=Dy (bQ t) r c i:=fun i hi=>by
  have I3:=h.inv.zP;unfold bQ Dy
  show((t.basis.set r (c:Int))[i]?.getD 0).toNat=_;by_cases e:i=r
  ·subst e;rw[if_pos rfl];simp[I3,hi]
  ·rw[if_neg e,List.getElem?_set_ne (fun e'=>e e'.symm)]
 refine⟨_,e2,⟨eT h.inv e2,h.m4,h.n70,?_,fun i hi=>by rw[hT i _ hi (Nat.le_refl _)];exact hb i hi,h.w0,h.w1⟩,hT,hB⟩;refine⟨fun i k hi hk=>?_,fun k j hk hj=>?_,fun k hk=>?_,fun i hi=>by rw[hB i hi];exact hq.Dk i hi,?_⟩
 ·rw[hB k hk,hT i _ hi (j4 (hq.Dk k hk))];exact hq.unit i k hi hk
 ·rw[hq.back k j hk hj];exact aq fun i hi=>by rw[hB i hi,hT i j hi hj]
 ·obtain⟨M,J⟩:=hq.Z7 k hk;exact⟨M,fun j hj=>by rw[hT k j hk hj];exact J j hj⟩
 ·have e:y3 m T0 (bQ ⟨st,t.basis.set r (c:Int),t.q8⟩)=y3 m T0 (Dy (bQ t) r c):=by
   funext k l
   unfold y3
   split
   ·next e=>rw[hB l e.2]
   ·rfl
  rw[e];exact hq.Ot
structure Gh(n m:Nat)(cost:j6):Prop where
 len:cost.length=n+m
 ok:∀j,j<n+m->o5 (cost[j]?.getD (0,0))=true
 two:∀j,j<n+m->o4 cost j=0∨o4 cost j=1
def cQ(cost:j6)(j:Nat):Rat:=o4 (cost++[(0,1)]) j
def fQ(m:Nat)(cost:j6)(t:Tb)(j:Nat):Rat:=cQ cost j-o0 (fun i=>o4 cost (bQ t i)*TQ t i j) m
theorem kG(h:Gh n m cost)(hj:j<n+m):cQ cost j=o4 cost j:=by
 unfold cQ o4;rw[List.getElem?_append_left (by rw[h.len];exact hj)]
theorem mw(h:Gh n m cost):cQ cost (n+m)=0:=by
 unfold cQ o4;rw[<-h.len,List.getElem?_concat_length,Option.getD_some,bp];rfl
theorem Yg(h:Gh n m cost)(hj:j<=n+m):cQ cost j=0∨cQ cost j=1:=by
 by_cases e:j=n+m
 ·rw[e,mw h];exact Or.inl rfl
 ·rw[kG h b9];exact h.two j b9
theorem Sr(h:x=0∨x=1):Wh x 1:=by
 rcases h with rfl|rfl
 ·exact Wh.zero _
 ·exact Wh.one (Nat.le_refl _)
theorem oe{n m:Nat}{T0:Nat->Nat->Rat}{t:Tb}(h:TB n m T0 t){cost:j6}(hc:Gh n m cost){j:Nat}(hj:j<=n+m):∀k,k<=m->Wh ((cQ cost j-o0 (fun i=>o4 cost (bQ t i)*TQ t i j) k)*AN (y3 m T0 (bQ t))) (24+336*k)
 | 0,_=>by
   have hd:=(h.fd.small h.m4 h.w0 h.w1 b9).1;have:(cQ cost j-o0 (fun i=>o4 cost (bQ t i)*TQ t i j) 0)*AN (y3 m T0 (bQ t))=cQ cost j*AN (y3 m T0 (bQ t)):=by simp only[o0];grind
   rw[this];exact((Sr (Yg hc hj)).mul hd).mono b9
 | k+1,hk=>by
   have ih:=oe h hc hj k b9;have hs:=(h.fd.small h.m4 h.w0 h.w1 b9).2 k j b9 hj;have hv:=Sr (hc.two (bQ t k) (h.fd.Dk k b9));simp only[o0];have e:(cQ cost j-(o0 (fun i=>o4 cost (bQ t i)*TQ t i j) k+o4 cost (bQ t k)*TQ t k j))*AN (y3 m T0 (bQ t))=(cQ cost j-o0 (fun i=>o4 cost (bQ t i)*TQ t i j) k)*AN (y3 m T0 (bQ t))-o4 cost (bQ t k)*(TQ t k j*AN (y3 m T0 (bQ t))):=by
    generalize o0 (fun i=>o4 cost (bQ t i)*TQ t i j) k=u
    grind
   rw[e];exact(ih.sub (hv.mul hs)).mono b9
theorem qe{n m:Nat}{T0:Nat->Nat->Rat}{t:Tb}(h:TB n m T0 t){cost:j6}(hc:Gh n m cost):∀k,k<=m->∃out,cO t cost k=some out/\eJ (n+m+1) out/\∀j,j<=n+m->o4 out j=cQ cost j-o0 (fun i=>o4 cost (bQ t i)*TQ t i j) k
 | 0,_=>by
   refine⟨_,rfl,⟨by simp[hc.len],fun j hj=>?_⟩,fun j hj=>?_⟩
   ·by_cases J:j<n+m
    ·rw[List.getElem?_append_left (by rw[hc.len];exact J)];exact hc.ok j J
    ·obtain rfl:j=n+m:=by omega
     rw[<-hc.len,List.getElem?_concat_length,Option.getD_some];rfl
   ·simp only[o0]
    show cQ cost j=_
    grind
 | k+1,hk=>by
   obtain⟨out,e0,I,v0⟩:=qe h hc k b9;have hb:=mu h.inv (i:=k) b9;have e1:(t.basis[k]?.getD 0).toNat=bQ t k:=rfl;obtain⟨r,e2,G,v2⟩:=tx (A:=out) (B:=t.row k) (k:=wR (cost[bQ t k]?.getD (0,0))) (M:=n+m+1) I (h.inv.row k b9) (by rw[cX];exact hc.ok _ hb.2)
    (fun j hj=>by
      rw[cH];have hv:Sm (o4 cost (bQ t k)) 1 1:=⟨1,Wh.one (Nat.le_refl _),by decide,by rw[Rat.mul_one];exact Sr (hc.two _ hb.2)⟩
      exact(hv.neg.mul (h.sm (i:=k) (j:=j) b9 b9)).mono b9 b9)
    (fun j hj=>by
      rw[v0 j b9]
      exact Sm.mono ⟨_,(h.fd.small h.m4 h.w0 h.w1 b9).1,h.fd.Ot,oe h hc b9 k b9⟩ (j4 h.m4) b9)
    (fun j hj=>by
      rw[v0 j b9,cH];have:=oe h hc (j:=j) b9 (k+1) hk;have e:cQ cost j-o0 (fun i=>o4 cost (bQ t i)*TQ t i j) k+-Go.Proofs.YtalmoolkhcgmmaaGreat.val (cost[bQ t k]?.getD (0,0))*o4 (t.row k) j=cQ cost j-o0 (fun i=>o4 cost (bQ t i)*TQ t i j) (k+1):=by
       simp only[o0]
       show _+-o4 cost (bQ t k)*TQ t k j=_
       grind
      rw[e]
      exact Sm.mono ⟨_,(h.fd.small h.m4 h.w0 h.w1 b9).1,h.fd.Ot,this⟩ (j4 h.m4) b9)
   refine⟨r,?_,G,fun j hj=>?_⟩
   ·simp only[cO,e0,Option.bind_some,e1];exact e2
   ·rw[v2 j b9,v0 j hj,cH];simp only[o0]
    show _+-o4 cost (bQ t k)*TQ t k j=_
    grind
theorem gF(h:TB n m T0 t)(hc:Gh n m cost):∃f,bS t cost=some f/\eJ (n+m+1) f/\∀j,j<=n+m->o4 f j=fQ m cost t j:=by
 obtain⟨f,e,ok,v⟩:=qe h hc m (Nat.le_refl _);refine⟨f,?_,ok,v⟩;unfold bS;have ho:jm t cost=true:=by
  unfold jm yz;have h1:=h.inv.q8;have h2:=h.inv.len;rw[h.inv.ok (j4 h.n70)];simp only[Bool.true_and,Bool.and_eq_true,decide_eq_true_eq,List.all_eq_true];refine⟨by rw[hc.len];omega,fun x hx=>?_⟩;obtain⟨j,hj,rfl⟩:=List.mem_iff_getElem.1 hx;have:=hc.ok j (by rw[<-hc.len];exact hj);rw[List.getElem?_eq_getElem hj,Option.getD_some]at this;exact this
 rw[if_pos ho,h.inv.len,e]
theorem sP(h:TB n m T0 t)(hc:Gh n m cost)(hk:k<m):fQ m cost t (bQ t k)=0:=by
 unfold fQ;rw[cV hk (fun i hi hne=>by rw[h.fd.unit i k hi hk,if_neg hne];grind),h.fd.unit k k hk hk,if_pos rfl,kG hc (h.fd.Dk k hk)]
 grind
theorem qm(h:TB n m T0 t)(hc:Gh n m cost):Red m (n+m) T0 (cQ cost) (fQ m cost t):=by
 obtain⟨f,e,ok,v⟩:=gF h hc;have hr:=(dT h.inv e).2;refine⟨fun l=>o4 f (n+l)-cQ cost (n+l),fun j hj=>?_⟩;have:=hr j b9;rw[<-v j hj];have e2:o4 (cost++[(0,1)]) j=cQ cost j:=rfl;rw[e2]at this;have e3:o0 (fun k=>(o4 f (n+k)-o4 (cost++[(0,1)]) (n+k))*T0 k j) m=o0 (fun l=>(o4 f (n+l)-cQ cost (n+l))*T0 l j) m:=rfl;rw[e3]at this
 grind
theorem Ns{p q:k5}(hp:o5 p=true)(hq:o5 q=true):wU p q<0↔val p<val q:=by
 have:=eW hp hq;constructor
 ·intro h;exact Rat.not_le.1 fun hh=>by have:=this.2 hh;omega
 ·intro h;have:¬0<=wU p q:=fun hh=>Rat.not_le.2 h (this.1 hh)
  omega
theorem lC(p q:k5):wU q p=- wU p q:=by
 unfold wU;by_cases h:(o5 p&&o5 q)=true
 ·have h2:(o5 q&&o5 p)=true:=by rw[Bool.and_comm];exact h
  rw[if_pos h,if_pos h2]
  repeat' split
  all_goals omega
 ·have h2:¬(o5 q&&o5 p)=true:=by rw[Bool.and_comm];exact h
  rw[if_neg h,if_neg h2];rfl
theorem cmp_eq{p q:k5}(hp:o5 p=true)(hq:o5 q=true):wU p q=0↔val p=val q:=by
 have h1:=eW hp hq;have h2:=eW hq hp;rw[lC p q]at h2;constructor
 ·intro h;exact Rat.le_antisymm (h2.1 b9) (h1.1 b9)
 ·intro h;have a:=h1.2 (by rw[h];exact Rat.le_refl);have b:=h2.2 (by rw[h];exact Rat.le_refl);omega
theorem kD:o5 (0,1)=true:=by rfl
theorem eK:val (0,1)=0:=by rw[bp];rfl
theorem mv{p:k5}(hp:o5 p=true):el p=true↔val p<0:=by
 unfold el;rw[decide_eq_true_eq,Ns hp kD,eK]
theorem lF{f:j6}(h:eJ (n+m+1) f):(aX f n=-1/\∀j,j<n->0<=o4 f j)∨∃s:Nat,aX f n=s/\s<n/\o4 f s<0/\∀j,j<s->0<=o4 f j:=by
 have hl:=h.1;unfold aX;rw[if_neg b9,Int.toNat_natCast];unfold bU;have hb:∀j,j<n->el (f[j]?.getD (0,0))=true∨0<=o4 f j:=fun j hj=>by
  by_cases hb:o4 f j<0
  ·exact Or.inl ((mv (h.2 j b9)).2 hb)
  ·exact Or.inr (Rat.not_lt.1 hb)
 cases e:(f.take n).findIdx? el with
 | none =>
   refine Or.inl ⟨rfl,fun j hj=>?_⟩
   rcases hb j hj with h1|h1
   ·rw[List.findIdx?_eq_none_iff]at e
    have:=e (f[j]?.getD (0,0)) (by
     rw[List.getElem?_eq_getElem b9,Option.getD_some]
     exact List.mem_take_iff_getElem.2 ⟨j,by omega,rfl⟩)
    rw[h1]at this;cases this
   ·exact h1
 | some s =>
   obtain⟨hs,hp,G⟩:=List.findIdx?_eq_some_iff_getElem.1 e;have IP:s<n:=by rw[List.length_take]at hs;omega
   refine Or.inr ⟨s,rfl,IP,?_,fun j hj=>?_⟩
   ·rw[List.getElem_take]at hp;have:=(mv (p:=f[s]' b9) (by have:=h.2 s b9;rw[List.getElem?_eq_getElem b9,Option.getD_some]at this;exact this)).1 hp;unfold o4;rw[List.getElem?_eq_getElem b9,Option.getD_some];exact this
   ·rcases hb j b9 with h1|h1
    ·have:=G j hj;rw[List.getElem_take]at this;rw[List.getElem?_eq_getElem b9,Option.getD_some]at h1;rw[h1]at this;simp at this
    ·exact h1
def LvP(n m:Nat)(t:Tb)(c k:Nat)(st:Int×(Int×Int)):Prop :=
 (st.1=-1/\∀i,i<k->TQ t i c<=0)∨∃r,r<k/\st.1=(r:Nat)/\o5 st.2=true/\val st.2=TQ t r (n+m)/TQ t r c/\0<TQ t r c /\
   ∀i,i<k->0<TQ t i c->val st.2<TQ t i (n+m)/TQ t i c∨(val st.2=TQ t i (n+m)/TQ t i c/\bQ t r<=bQ t i)
theorem oT{n m:Nat}{T0:Nat->Nat->Rat}{t:Tb}(h:TB n m T0 t){c:Nat}(hc:c<n+m):∀k,k<=m->LvP n m t c k (bO t c k)
 | 0,_=>Or.inl ⟨rfl,fun i hi=>absurd hi b9⟩
 | k+1,hk=>by
   have ih:=oT h hc k b9;simp only[bO];generalize bO t c k=st at ih;have hN:t.q8.toNat+t.rows.length=n+m:=by have:=h.inv.q8;have:=h.inv.len;omega
   unfold dG;rw[hN];have hv:=h.val (i:=k) (j:=c) b9 b9;have hw:=h.val (i:=k) (j:=n+m) b9 (Nat.le_refl _);by_cases h1:wU (t.at k c) (0,1)<=0
   ·rw[if_pos h1];have hle:TQ t k c<=0:=by
     rw[<-hv.2];have:=eW kD hv.1;rw[lC]at this;rw[eK]at this;exact this.1 b9
    rcases ih with⟨a,b⟩|⟨r,r1,J,I,O,K,G⟩
    ·refine Or.inl ⟨a,fun i hi=>?_⟩;by_cases e:i=k
     ·rw[e];exact hle
     ·exact b i b9
    ·refine Or.inr ⟨r,by omega,J,I,O,K,fun i hi zq=>?_⟩;by_cases e:i=k
     ·subst e;exact absurd zq (Rat.not_lt.2 hle)
     ·exact G i b9 zq
   ·rw[if_neg h1];have zq:0<TQ t k c:=by
     rw[<-hv.2];refine Rat.not_le.1 fun hh=>h1 ?_
     have:=eW kD hv.1;rw[lC,eK]at this;have:=this.2 hh;omega
    have hne:TQ t k c≠0:=fun e=>by rw[e]at zq;exact absurd zq (by decide)
    have Bk:(yH (t.at k (n+m)) (t.at k c)).2=true:=by
     refine Nh hw.1 hv.1 (by rw[hv.2];exact hne) ?_;rw[hw.2,hv.2];have s1:=h.fd.small h.m4 h.w0 h.w1 b9;have zU:=h.fd.TT h.m4 (i:=k) (j:=c) b9 b9;refine Sm.mono (a:=336) (b:=336) ⟨TQ t k c*AN (y3 m T0 (bQ t)),s1.2 k c b9 b9,fun e=>?_,?_⟩ b9 b9
     ·rcases Rat.mul_eq_zero.1 e with e|e
      ·exact hne e
      ·exact h.fd.Ot e
     ·have e:TQ t k (n+m)/TQ t k c*(TQ t k c*AN (y3 m T0 (bQ t)))=TQ t k (n+m)*AN (y3 m T0 (bQ t)):=by grind
      rw[e];exact s1.2 k (n+m) b9 (Nat.le_refl _)
    obtain⟨_,_,d3,_,d5⟩:=tH Bk;rw[hw.2,hv.2]at d5;rw[if_neg (by rw[Bk];simp)];have Df:=mu h.inv (i:=k) b9;have PQ:∀Qa:(∀i,i<k->0<TQ t i c->TQ t k (n+m)/TQ t k c<TQ t i (n+m)/TQ t i c∨(TQ t k (n+m)/TQ t k c=TQ t i (n+m)/TQ t i c/\bQ t k<=bQ t i)),LvP n m t c (k+1) ((k:Int),(yH (t.at k (n+m)) (t.at k c)).1):=fun Qa=>by
     refine Or.inr ⟨k,by omega,rfl,d3,d5,zq,fun i hi F5=>?_⟩;simp only;rw[d5];by_cases e:i=k
     ·subst e;exact Or.inr ⟨rfl,Nat.le_refl _⟩
     ·exact Qa i b9 F5
    rcases ih with⟨a,b⟩|⟨r,r1,J,I,O,K,G⟩
    ·rw[if_pos (Or.inl b9)];exact PQ fun i hi F5=>absurd F5 (Rat.not_lt.2 (b i hi))
    ·have Du:=mu h.inv (i:=r) b9;rw[J,Int.toNat_natCast,Df.1,Du.1];simp only[Ns d3 I,cmp_eq d3 I,d5];by_cases yq:((r:Nat):Int)<0∨TQ t k (n+m)/TQ t k c<val st.2∨(TQ t k (n+m)/TQ t k c=val st.2/\(bQ t k:Int)<bQ t r)
     ·rw[if_pos yq];refine PQ fun i hi F5=>?_
      rcases yq with hh|hh|⟨hh,Vd⟩
      ·omega
      ·rcases G i hi F5 with g|⟨g,_⟩
       ·exact Or.inl (by grind)
       ·exact Or.inl (by rw[<-g];exact hh)
      ·rcases G i hi F5 with g|⟨g,g2⟩
       ·exact Or.inl (by rw[hh];exact g)
       ·exact Or.inr ⟨by rw[hh];exact g,by omega⟩
     ·rw[if_neg yq];refine Or.inr ⟨r,by omega,J,I,O,K,fun i hi F5=>?_⟩;by_cases e:i=k
      ·subst e;by_cases g:val st.2<TQ t i (n+m)/TQ t i c
       ·exact Or.inl g
       ·have g2:=Rat.not_lt.1 g;by_cases g3:TQ t i (n+m)/TQ t i c<val st.2
        ·exact absurd (Or.inr (Or.inl g3)) yq
        ·have g4:=Rat.le_antisymm (Rat.not_lt.1 g3) g2;refine Or.inr ⟨g4,?_⟩;have:¬(bQ t i:Int)<bQ t r:=fun hh=>yq (Or.inr (Or.inr ⟨g4.symm,hh⟩))
         omega
      ·exact G i b9 F5
theorem qL(h:TB n m T0 t)(hc:c<n+m):(bP t c=-1/\∀i,i<m->TQ t i c<=0)∨∃r:Nat,r<m/\bP t c=r/\0<TQ t r c /\
 ∀i,i<m->0<TQ t i c->TQ t r (n+m)/TQ t r c<TQ t i (n+m)/TQ t i c∨(TQ t r (n+m)/TQ t r c=TQ t i (n+m)/TQ t i c/\bQ t r<=bQ t i):=by
 have hl:=oT h hc m (Nat.le_refl _);have e:bP t c=(bO t c m).1:=by
  unfold bP;have h1:=h.inv.q8;have h2:=h.inv.len;rw[h.inv.ok (j4 h.n70),Int.toNat_natCast,h2,if_pos];simp only[Bool.true_and,wJ,Bool.and_eq_true,decide_eq_true_eq];omega
 rw[e]
 rcases hl with⟨a,b⟩|⟨r,r1,K,r3,J,I,G⟩
 ·exact Or.inl ⟨a,b⟩
 ·refine Or.inr ⟨r,r1,K,I,fun i hi F5=>?_⟩;rw[<-J];exact G i hi F5
structure Stp(n m:Nat)(T0:Nat->Nat->Rat)(cost:j6)(t t':Tb)(r s:Nat):Prop where
 a:TB n m T0 t
 b:TB n m T0 t'
 rm:r<m
 sn:s<n
 Dk:∀i,i<m->bQ t' i=if i=r then s else bQ t i
 neg:fQ m cost t s<0
 min:∀j,j<s->0<=fQ m cost t j
 piv:0<TQ t r s
 tie:∀i,i<m->0<TQ t i s->TQ t i (n+m)=0->TQ t r (n+m)=0->bQ t r<=bQ t i
theorem tD(h:TB n m T0 t){f:j6}(hc:Gh n m cost)(hf:bS t cost=some f)(h1:¬aX f t.q8<0)(h2:¬bP t (aX f t.q8)<0):
 ∃G r s,bo t (bP t (aX f t.q8)) (aX f t.q8)=some G/\Stp n m T0 cost t G r s:=by
 obtain⟨f',e,ok,v⟩:=gF h hc;rw[hf]at e;obtain rfl:=Option.some.inj e;rw[h.inv.q8]at h1 h2⊢
 rcases lF ok with⟨e1,_⟩|⟨s,e1,s1,s2,K⟩
 ·omega
 ·rw[e1]at h2⊢
  rcases qL h (c:=s) b9 with⟨e2,_⟩|⟨r,r1,e2,I,J⟩
  ·omega
  ·rw[e2];have R:TQ t r s≠0:=fun e=>by rw[e]at I;exact absurd I (by decide)
   obtain⟨G,p1,p2,p3,O⟩:=qY h r1 (show s<n+m by omega) R (fun i hi=>by
    have Du:=h.pos r r1;have Ck:=h.pos i hi;have hq:0<=TQ t r (n+m)/TQ t r s:=by
     rw[Rat.div_def];exact Rat.mul_nonneg Du (Rat.le_of_lt (Rat.inv_pos.2 I))
    unfold As;by_cases e:i=r
    ·rw[if_pos e];exact hq
    ·rw[if_neg e];by_cases zq:0<TQ t i s
     ·have hle:TQ t r (n+m)/TQ t r s<=TQ t i (n+m)/TQ t i s:=by
       rcases J i hi zq with g|⟨g,_⟩
       ·exact Rat.le_of_lt g
       ·rw[g];exact Rat.le_refl
      have hne:TQ t i s≠0:=fun e=>by rw[e]at zq;exact absurd zq (by decide)
      have h3:=Rat.mul_le_mul_of_nonneg_left hle (Rat.le_of_lt zq);have e4:TQ t i s*(TQ t i (n+m)/TQ t i s)=TQ t i (n+m):=by grind
      rw[e4]at h3
      grind
     ·have h5:=Rat.mul_nonneg (show 0<=-TQ t i s by grind) hq
      grind)
   refine⟨G,r,s,p1,h,p2,r1,s1,fun i hi=>by rw[O i hi];rfl,by rw[<-v s b9];exact s2,fun j hj=>by rw[<-v j b9];exact K j hj,I,fun i hi F5 JD yN=>?_⟩
   rcases J i hi F5 with g|⟨_,g⟩
   ·rw[JD,yN]at g;have e1:(0:Rat)/TQ t r s=0:=by grind
    have e2:(0:Rat)/TQ t i s=0:=by grind
    rw[e1,e2]at g;exact absurd g (by decide)
   ·exact g
theorem Pg{L:Nat}(hc:Gh n m cost){ts:Nat->Tb}{rs ss:Nat->Nat}(h:∀k,k<L->Stp n m T0 cost (ts k) (ts (k+1)) (rs k) (ss k))(I:0<L)
 (G:∀v,(∃i,i<m/\bQ (ts 0) i=v)↔(∃i,i<m/\bQ (ts L) i=v)):False:=by
 have Oq:∀k,k<=L->TB n m T0 (ts k):=fun k hk=>by
  by_cases e:k<L
  ·exact(h k e).a
  ·have:=(h (L-1) b9).b;rw[show L-1+1=k by omega]at this;exact this
 exact Yi (m:=m) (N:=n+m) (L:=L) (T:=fun k=>TQ (ts k)) (β:=fun k=>bQ (ts k)) (f:=fun k=>fQ m cost (ts k)) (r:=rs) (s:=ss)
  (fun k hk i j hi hj=>(Oq k hk).fd.unit i j hi hj) (fun k hk i hi=>sP (Oq k hk) hc hi) (fun k hk i hi=>(Oq k hk).pos i hi) (fun k hk i hi=>(Oq k hk).fd.Dk i hi)
  (fun p q hp hq v hv=>(Oq p hp).fd.e1 (qm (Oq p hp) hc) (qm (Oq q hq) hc) (fun i hi=>sP (Oq p hp) hc hi) hv)
  (fun p q hp hq k v hk hv=>(Oq p hp).fd.e2 (Oq q hq).fd hk hv)
  (fun k hk=>(h k hk).rm) (fun k hk=>by have:=(h k hk).sn;omega) (fun k hk i hi=>(h k hk).Dk i hi) (fun k hk=>(h k hk).neg) (fun k hk j hj=>(h k hk).min j hj) (fun k hk=>(h k hk).piv)
  (fun k hk i hi h1 h2 h3=>(h k hk).tie i hi h1 h2 h3) I G
theorem Zy{α:Type}[DecidableEq α]:∀(M:Nat) (g:Nat->α) (l:List α),(∀i,i<M->g i∈l)->(∀i j,i<M->j<M->g i=g j->i=j)->M<=l.length
 | 0,_,_,_,_=>Nat.zero_le _
 | M+1,g,l,h,hi=>by
   have h1:=Zy M g (l.erase (g M)) (fun i Xn=>(List.mem_erase_of_ne (fun e=>by have:=hi i M b9 b9 e;omega)).2 (h i b9)) (fun i j a b e=>hi i j b9 b9 e);have hm:=h M b9;rw[List.length_erase_of_mem hm]at h1;have:=List.length_pos_of_mem hm;omega
theorem onto(m:Nat)(g:Nat->Nat)(h:∀i,i<m->g i<m)(hi:∀i j,i<m->j<m->g i=g j->i=j)(hk:k<m):∃i,i<m/\g i=k:=by
 refine Classical.byContradiction fun G=>?_
 have h1:=Zy m g ((List.range m).erase k) (fun i Rv=>(List.mem_erase_of_ne (fun e=>G ⟨i,Rv,e⟩)).2 (List.mem_range.2 (h i Rv))) hi;rw[List.length_erase_of_mem (List.mem_range.2 hk),List.length_range]at h1;omega
def Nu:Nat->Nat->List (List Bool)
 | 0,_=>[[]]
 | n+1,0=>(Nu n 0).map (false::·)
 | n+1,k+1=>(Nu n (k+1)).map (false::·)++(Nu n k).map (true::·)
theorem kN:∀(n k:Nat) (l:List Bool),l.length=n->l.countP id<=k->l∈Nu n k
 | 0,_,l,h,_=>by
   rw[List.length_eq_zero_iff]at h;subst h;simp[Nu]
 | n+1,k,[],h,_=>by cases h
 | n+1,0,b::l,h,hc=>by
   cases b
   ·simp only[Nu,List.mem_map,List.cons.injEq,true_and,exists_eq_right];exact kN n 0 l (by simpa using h) (by simpa[List.countP_cons]using hc)
   ·simp[List.countP_cons]at hc
 | n+1,k+1,b::l,h,hc=>by
   cases b
   ·simp only[Nu,List.mem_append,List.mem_map,List.cons.injEq,true_and,exists_eq_right];exact Or.inl (kN n (k+1) l (by simpa using h) (by simpa[List.countP_cons]using hc))
   ·simp only[Nu,List.mem_append,List.mem_map,List.cons.injEq,true_and,exists_eq_right];exact Or.inr (kN n k l (by simpa using h) (by simp[List.countP_cons]at hc;omega))
theorem uM:∀n,n<=16->(Nu n 3).length<=697:=by decide +kernel
def iR(n m:Nat)(t:Tb):List Bool:=(List.range n).map fun v=>(List.range m).any fun i=>bQ t i == v
theorem qb{v:Nat}(hv:v<n):(iR n m t)[v]?.getD false=true↔∃i,i<m/\bQ t i=v:=by
 unfold iR;rw[List.getElem?_map,List.getElem?_range hv,Option.map_some,Option.getD_some];simp
theorem uP(h:TB n m T0 t){i0:Nat}(JD:i0<m)(hb:n<=bQ t i0):iR n m t∈Nu n 3:=by
 refine kN n 3 _ (by simp[iR]) ?_;unfold iR;rw[List.countP_map]
 show(List.range n).countP (fun v=>(List.range m).any fun i=>bQ t i == v)<=3;rw[List.countP_eq_length_filter];obtain⟨F,hF⟩:=b8 ((List.range n).filter (fun v=>(List.range m).any fun i=>bQ t i == v));rw[<-hF];have G:F.Nodup:=by rw[hF];exact List.nodup_range.filter _
 have h1:=Zy F.length (fun k=>F[k]?.getD 0) (((List.range m).erase i0).map (bQ t)) (fun k hk=>by
  have hm:F[k]∈F:=List.getElem_mem hk;rw[List.getElem?_eq_getElem hk,Option.getD_some];obtain⟨v,hv⟩:=b8 (F[k]);rw[<-hv]at hm⊢;rw[hF,List.mem_filter,List.mem_range,List.any_eq_true]at hm;obtain⟨Wm,i,hi,e⟩:=hm;rw[beq_iff_eq]at e
  refine List.mem_map.2 ⟨i,(List.mem_erase_of_ne (fun e2=>by rw[e2]at e;omega)).2 hi,e⟩) (fun i j hi hj e=>by
  rw[List.getElem?_eq_getElem hi,List.getElem?_eq_getElem hj,Option.getD_some,Option.getD_some]at e;have hne:=List.pairwise_iff_getElem.1 G
  rcases Nat.lt_trichotomy i j with g|g|g
  ·exact absurd e (hne i j hi hj g)
  ·exact g
  ·exact absurd e.symm (hne j i hj hi g))
 rw[List.length_map,List.length_erase_of_mem (List.mem_range.2 JD),List.length_range]at h1;have:=h.m4;omega
theorem T4{I:Tb}{r s:Nat}(h:Stp n m T0 cost t I r s)(hc:Gh n m cost)(hz:∀j,j<n->o4 cost j=0):∃i,i<m/\n<=bQ t i:=by
 refine Classical.byContradiction fun G=>?_
 have h1:=h.neg;unfold fQ at h1
 rw[kG hc (j4 h.sn),hz s h.sn,cv (fun i hi=>by
  rw[hz (bQ t i) (by
   refine Classical.byContradiction fun hh=>G ⟨i,hi,by omega⟩)]
  grind)]at h1
 exact absurd h1 (by grind)
theorem few{L:Nat}(hn:n<=16)(hc:Gh n m cost)(hz:∀j,j<n->o4 cost j=0){ts:Nat->Tb}{rs ss:Nat->Nat}(h:∀k,k<L->Stp n m T0 cost (ts k) (ts (k+1)) (rs k) (ss k)):L<=697:=by
 refine Nat.le_trans (Zy L (fun k=>iR n m (ts k)) (Nu n 3) (fun k hk=>?_) ?_) (uM n hn)
 ·obtain⟨i,hi,hb⟩:=T4 (h k hk) hc hz;exact uP (h k hk).a hi hb
 ·have main:∀p q,p<q->q<L->iR n m (ts p)=iR n m (ts q)->False:=by
   intro p q xk hq he;have K:∀v,n<=v->∀d,p+d<=q->(∃i,i<m/\bQ (ts (p+d)) i=v)->∃i,i<m/\bQ (ts p) i=v:=by
    intro v hv d
    induction d with
    | zero=>intro _ h;exact h
    | succ d ih =>
      intro hd ⟨i,hi,e⟩;refine ih b9 ⟨i,hi,?_⟩;rw[show p+(d+1)=p+d+1 by omega,(h (p+d) b9).Dk i hi]at e
      split at e
      ·have:=(h (p+d) b9).sn;omega
      ·exact e
   have GG:∀v,(∃i,i<m/\bQ (ts q) i=v)->∃i,i<m/\bQ (ts p) i=v:=by
    intro v hv;by_cases G:v<n
    ·rw[<-qb G,he,qb G];exact hv
    ·exact K v b9 (q-p) b9 (by rw[show p+(q-p)=q by omega];exact hv)
   have hP:=(h p b9).a;have J:=(h q hq).a;have inj:∀{t:Tb},TB n m T0 t->∀i j,i<m->j<m->bQ t i=bQ t j->i=j:=by
    intro t ht i j hi hj e;have h1:=ht.fd.unit i i hi hi;have h2:=ht.fd.unit i j hi hj;rw[<-e,h1,if_pos rfl]at h2;by_cases e:i=j
    ·exact e
    ·rw[if_neg e]at h2;exact absurd h2 (by decide)
   have hg:∀i,∃j,i<m->j<m/\bQ (ts p) j=bQ (ts q) i:=fun i=>by
    by_cases hi:i<m
    ·obtain⟨j,hj,e⟩:=GG _ ⟨i,hi,rfl⟩;exact⟨j,fun _=>⟨hj,e⟩⟩
    ·exact⟨0,fun h=>absurd h hi⟩
   obtain⟨g,hg⟩:=Classical.axiomOfChoice hg;have I:∀v,(∃i,i<m/\bQ (ts p) i=v)↔(∃i,i<m/\bQ (ts q) i=v):=by
    intro v;refine⟨fun⟨k,hk,e⟩=>?_,GG v⟩;obtain⟨i,hi,e2⟩:=onto m g (fun i hi=>(hg i hi).1) (fun i j hi hj e=>inj J i j hi hj (by rw[<-(hg i hi).2,<-(hg j hj).2,e])) hk;exact⟨i,hi,by rw[<-(hg i hi).2,e2,e]⟩
   refine Pg (T0:=T0) (L:=q-p) (ts:=fun k=>ts (p+k)) (rs:=fun k=>rs (p+k)) (ss:=fun k=>ss (p+k)) hc (fun k hk=>?_) b9 ?_
   ·exact h (p+k) b9
   ·intro v
    show(∃i,i<m/\bQ (ts (p+0)) i=v)↔(∃i,i<m/\bQ (ts (p+(q-p))) i=v);rw[Nat.add_zero,show p+(q-p)=q by omega];exact I v
  intro i j hi hj e
  rcases Nat.lt_trichotomy i j with h1|h1|h1
  ·exact(main i j h1 hj e).elim
  ·exact h1
  ·exact(main j i h1 hi e.symm).elim
def UZ(cost:j6)(t:Tb):Tb:=match bS t cost with
 | none=>t
 | some f=>(bo t (bP t (aX f t.q8)) (aX f t.q8)).getD t
def Oa(cost:j6)(t:Tb):Nat->Tb
 | 0=>t
 | k+1=>Oa cost (UZ cost t) k
theorem lq{n m:Nat}{T0:Nat->Nat->Rat}{cost:j6}(hc:Gh n m cost):∀(F:Nat) (t:Tb),TB n m T0 t->aJ cost F t=none->∀k,k<F->∃r s,Stp n m T0 cost (Oa cost t k) (Oa cost t (k+1)) r s
 | 0,_,_,_,k,hk=>absurd hk b9
 | F+1,t,h,e,k,hk=>by
   obtain⟨f,G,_,_⟩:=gF h hc;unfold aJ at e;rw[G]at e;simp only at e
   split at e
   ·cases e
   ·next h1 =>
    split at e
    ·cases e
    ·next h2 =>
     obtain⟨I,r,s,p1,p2⟩:=tD h hc G h1 h2;rw[p1]at e;simp only at e;have J:UZ cost t=I:=by unfold UZ;rw[G];simp only;rw[p1];rfl
     cases k with
     | zero=>exact⟨r,s,by show Stp n m T0 cost t (UZ cost t) r s;rw[J];exact p2⟩
     | succ k =>
       have:=lq hc F I p2.b e k b9
       show∃r s,Stp n m T0 cost (Oa cost (UZ cost t) k) (Oa cost (UZ cost t) (k+1)) r s;rw[J];exact this
theorem mV(cost:j6):∀(F G:Nat) (t:Tb) (p:Ph),aJ cost F t=some p->∃p',aJ cost (F+G) t=some p'/\p'.t=p.t/\p'.costs=p.costs/\p'.wX=p.wX/\p'.left=p.left+G
 | F,G,t,p,e=>by
   cases F with
   | zero =>
     unfold aJ at e⊢;cases e0:bS t cost with
     | none=>rw[e0]at e;cases e
     | some f =>
       rw[e0]at e;simp only at e⊢
       split at e
       ·next h=>rw[if_pos h];cases e;exact⟨_,rfl,rfl,rfl,rfl,by simp⟩
       ·next h =>
        rw[if_neg h]
        split at e
        ·next h2=>rw[if_pos h2];cases e;exact⟨_,rfl,rfl,rfl,rfl,by simp⟩
        ·cases e
   | succ F =>
     unfold aJ at e⊢;cases e0:bS t cost with
     | none=>rw[e0]at e;cases e
     | some f =>
       rw[e0]at e;simp only at e⊢
       split at e
       ·next h=>rw[if_pos h];cases e;exact⟨_,rfl,rfl,rfl,rfl,rfl⟩
       ·next h =>
        rw[if_neg h]
        split at e
        ·next h2=>rw[if_pos h2];cases e;exact⟨_,rfl,rfl,rfl,rfl,rfl⟩
        ·next h2 =>
         rw[if_neg h2];cases e1:bo t (bP t (aX f t.q8)) (aX f t.q8)with
         | none=>rw[e1]at e;cases e
         | some t' =>
           rw[e1]at e;rw[show F+1+G=F+G+1 by omega];simp only at e⊢;exact mV cost F G t' p e
theorem vW(hn:n<=16)(hc:Gh n m cost)(hz:∀j,j<n->o4 cost j=0)(h:TB n m T0 t):∃p,aJ cost 1000 t=some p/\300<=p.left:=by
 cases e:aJ cost 698 t with
 | none =>
   have h1:=lq hc 698 t h e
   obtain⟨rs,h2⟩:=Classical.axiomOfChoice (fun k=>show∃r,k<698->∃s,Stp n m T0 cost (Oa cost t k) (Oa cost t (k+1)) r s by
    by_cases hk:k<698
    ·obtain⟨r,s,hs⟩:=h1 k hk;exact⟨r,fun _=>⟨s,hs⟩⟩
    ·exact⟨0,fun h=>absurd h hk⟩)
   obtain⟨ss,h3⟩:=Classical.axiomOfChoice (fun k=>show∃s,k<698->Stp n m T0 cost (Oa cost t k) (Oa cost t (k+1)) (rs k) s by
    by_cases hk:k<698
    ·obtain⟨s,hs⟩:=h2 k hk;exact⟨s,fun _=>hs⟩
    ·exact⟨0,fun h=>absurd h hk⟩)
   have:=few hn hc hz (L:=698) (ts:=Oa cost t) (rs:=rs) (ss:=ss) h3;omega
 | some p =>
   obtain⟨G,e1,_,_,_,e2⟩:=mV cost 698 302 t p e;exact⟨G,e1,by omega⟩
theorem ph{n m:Nat}{T0:Nat->Nat->Rat}{cost:j6}(hc:Gh n m cost):∀(F:Nat) (t:Tb) (p:Ph),TB n m T0 t->aJ cost F t=some p->TB n m T0 p.t/\bS p.t cost=some p.costs/\(aX p.costs p.t.q8<0∨bP p.t (aX p.costs p.t.q8)<0)/\(aX p.costs p.t.q8<0->p.wX=-1)
 | F,t,p,h,e=>by
   obtain⟨f,G,_,_⟩:=gF h hc;cases F with
   | zero =>
     unfold aJ at e;rw[G]at e;simp only at e
     split at e
     ·next h1=>cases e;exact⟨h,G,Or.inl h1,fun _=>rfl⟩
     ·next h1 =>
      split at e
      ·next h2=>cases e;exact⟨h,G,Or.inr h2,fun h3=>absurd h3 h1⟩
      ·cases e
   | succ F =>
     unfold aJ at e;rw[G]at e;simp only at e
     split at e
     ·next h1=>cases e;exact⟨h,G,Or.inl h1,fun _=>rfl⟩
     ·next h1 =>
      split at e
      ·next h2=>cases e;exact⟨h,G,Or.inr h2,fun h3=>absurd h3 h1⟩
      ·next h2 =>
       obtain⟨I,r,s,p1,p2⟩:=tD h hc G h1 h2;rw[p1]at e;exact ph hc F I p p2.b e
theorem sN{X Y:j6}{D:Rat}{K:Nat}(O:K<=70)(G:Wh D 24)(h0:D≠0)(hX:∀j,j<K->o5 (X[j]?.getD (0,0))=true)(hY:∀j,j<K->o5 (Y[j]?.getD (0,0))=true)(h:∀j,j<K->Wh (o4 X j*o4 Y j*D) 336):
 ∀k,k<=K->∃v,zA X Y k=some v/\o5 v=true/\val v=o0 (fun j=>o4 X j*o4 Y j) k/\Wh (val v*D) (336*k)
 | 0,_=>⟨(0,1),rfl,rfl,eK,by rw[eK];exact⟨0,by rw[Rat.zero_mul];rfl,by omega⟩⟩
 | k+1,hk=>by
   obtain⟨s,e0,J,es,ws⟩:=sN O G h0 hX hY h k b9;have hm:=h k b9;have m1:=LJ (hX k b9) (hY k b9) (Sm.mono ⟨D,G,h0,hm⟩ b9 b9);obtain⟨_,_,m3,m4⟩:=kS m1;have I:Wh (val (mulR (X[k]?.getD (0,0)) (Y[k]?.getD (0,0))).1*D) 336:=by rw[m4];exact hm
   have CF:Wh ((val s+val (mulR (X[k]?.getD (0,0)) (Y[k]?.getD (0,0))).1)*D) (336*(k+1)):=by
    rw[Rat.add_mul];exact(ws.add I).mono b9
   have a1:=NF J m3 (Sm.mono ⟨D,G,h0,ws⟩ b9 b9) (Sm.mono ⟨D,G,h0,I⟩ b9 b9) (Sm.mono ⟨D,G,h0,CF⟩ b9 b9);obtain⟨_,_,a3,a4⟩:=jw a1;refine⟨(xP s (mulR (X[k]?.getD (0,0)) (Y[k]?.getD (0,0))).1).1,?_,a3,?_,by rw[a4];exact CF⟩
   ·simp only[zA,e0,Option.bind_some];rw[if_pos ⟨m1,a1⟩]
   ·rw[a4,es,m4];rfl
theorem sM{X Y:j6}{D:Rat}(hl:X.length=Y.length)(G:X.length<=70)(I:Wh D 24)(h0:D≠0)(hX:∀j,j<X.length->o5 (X[j]?.getD (0,0))=true)(hY:∀j,j<X.length->o5 (Y[j]?.getD (0,0))=true)(h:∀j,j<X.length->Wh (o4 X j*o4 Y j*D) 336){x:Int}(hx:(x:Rat)=o0 (fun j=>o4 X j*o4 Y j) X.length)(hb:-1000000000<=x/\x<=1000000000):
 wY X Y=some (x,1):=by
 obtain⟨v,e,hv,J,_⟩:=sN G I h0 hX hY h X.length (Nat.le_refl _);unfold wY;rw[if_pos hl,e];rw[fV hv (eI x hb.1 hb.2) (by rw[J,bp,hx])]
structure E0(A:j7)(B:j9)(n:Nat):Prop where
 n16:n<=16
 m4:A.length<=4
 zP:B.length=A.length
 row:∀i,i<A.length->(A[i]?.getD []).length=n
 C4:∀i j,i<A.length->j<n->-1<=(A[i]?.getD [])[j]?.getD 0/\(A[i]?.getD [])[j]?.getD 0<=1
 bnd:∀i,i<A.length->-14<=B[i]?.getD 0/\B[i]?.getD 0<=14
def dP(n:Nat):j6:=List.replicate n (0,1)
theorem eE(n:Nat):(dP n).length=n:=by simp[dP]
theorem rK(h:j<n):(dP n)[j]?.getD (0,0)=(0,1):=by simp[dP,List.getElem?_replicate,h]
theorem E0.ok(h:E0 A B n):xF A B (dP n)=true:=by
 have:=h.n16;have:=h.m4;have:=h.zP;unfold xF yz;simp only[Bool.and_eq_true,decide_eq_true_eq,List.all_eq_true,wJ,eE];refine⟨by omega,by omega,by omega,fun x hx=>?_,fun r hr=>?_,fun x hx=>?_⟩
 ·simp only[dP,List.mem_replicate]at hx;rw[hx.2];rfl
 ·obtain⟨i,hi,rfl⟩:=List.mem_iff_getElem.1 hr;have h1:=h.row i hi;have h2:=fun j=>h.C4 i j hi
  rw[List.getElem?_eq_getElem hi,Option.getD_some]at h1 h2;refine⟨h1,fun x hx=>?_⟩;obtain⟨j,hj,rfl⟩:=List.mem_iff_getElem.1 hx;have:=h2 j b9;rw[List.getElem?_eq_getElem hj,Option.getD_some]at this;omega
 ·obtain⟨i,hi,rfl⟩:=List.mem_iff_getElem.1 hx;have:=h.bnd i b9;rw[List.getElem?_eq_getElem hi,Option.getD_some]at this;omega
def GL(A:j7)(B:j9)(k j:Nat):Rat:=o4 (cn A B k) j
theorem nD(h:E0 A B n)(hi:i<A.length)(hj:j<n):GL A B i j=(ys (B[i]?.getD 0):Rat)*(((A[i]?.getD [])[j]?.getD 0:Int):Rat):=by
 unfold GL o4;rw[(eG (B:=B) (h.row i hi) hi).2.1 j hj,jU]
theorem NH(h:E0 A B n)(hi:i<A.length)(hk:k<A.length):GL A B i (n+k)=if k=i then 1 else 0:=by
 unfold GL o4;rw[(eG (B:=B) (h.row i hi) hi).2.2.1 k hk]
 split
 ·rw[bp];rfl
 ·exact eK
theorem ms(h:E0 A B n)(hi:i<A.length):GL A B i (n+A.length)=(ys (B[i]?.getD 0):Rat)*((B[i]?.getD 0:Int):Rat):=by
 unfold GL o4;rw[(eG (B:=B) (h.row i hi) hi).2.2.2,jU]
theorem tz(b:Int):Wh ((ys b:Int):Rat) 1:=by
 refine Wh.mk _ ?_
 rcases ei b with⟨_,e⟩|⟨_,e⟩<;>rw[e]<;>decide
theorem jx(hi:i<A.length)(j:Nat):TQ (bF A B n) i j=GL A B i j:=by
 unfold TQ GL bF Tb.row;simp only[List.getElem?_map,List.getElem?_range hi,Option.map_some,Option.getD_some]
theorem pW(hi:i<A.length):bQ (bF A B n) i=n+i:=by
 unfold bQ bF;simp only[List.getElem?_map,List.getElem?_range hi,Option.map_some,Option.getD_some];omega
theorem Nk:AN (fun k l=>if k=l then 1 else 0)=1:=by
 simp[AN,FL,GK,m3]
 all_goals grind
theorem KN(h:E0 A B n):TB n A.length (GL A B) (bF A B n):=by
 have JD:=fT h.ok;rw[eE]at JD;have hb:∀k l,k<A.length->l<A.length->GL A B k (bQ (bF A B n) l)=if k=l then 1 else 0:=fun k l hk hl=>by
  rw[pW hl,NH h hk hl];by_cases e:k=l
  ·rw[if_pos e,if_pos e.symm]
  ·rw[if_neg e,if_neg (fun e2=>e e2.symm)]
 refine⟨JD,h.m4,by have:=h.n16;omega,⟨fun i k hi hk=>?_,fun k j hk hj=>?_,fun k hk=>⟨fun l=>if l=k then 1 else 0,fun j hj=>?_⟩,fun i hi=>by rw[pW hi];omega,?_⟩,fun i hi=>?_,fun k j hk hj=>?_,fun k hk=>?_⟩
 ·rw[jx hi,hb i k hi hk]
 ·rw[cV hk (fun i hi hne=>by rw[hb k i hk hi,if_neg (fun e=>hne e.symm)];grind),hb k k hk hk,if_pos rfl,jx hk]
  grind
 ·rw[cV hk (fun i hi hne=>by show(if i=k then(1:Rat) else 0)*_=0;rw[if_neg hne];grind),jx hk]
  show _=(if k=k then(1:Rat) else 0)*_;rw[if_pos rfl];grind
 ·have e:y3 A.length (GL A B) (bQ (bF A B n))=fun k l=>if k=l then 1 else 0:=by
   funext k l
   unfold y3
   split
   ·next g=>exact hb k l g.1 g.2
   ·rfl
  rw[e,Nk];decide
 ·rw[jx hi,ms h hi]
  rcases ei (B[i]?.getD 0)with⟨g,e⟩|⟨g,e⟩
  ·rw[e,<-Rat.intCast_mul]
   exact_mod_cast (show(0:Int)<=-1*B[i]?.getD 0 by omega)
  ·rw[e,<-Rat.intCast_mul]
   exact_mod_cast (show(0:Int)<=1*B[i]?.getD 0 by omega)
 ·by_cases Ah:j<n
  ·rw[nD h hk Ah];exact(tz _).mul (Wh.mk (b:=1) _ (j4 (h.C4 k j hk Ah)))
  ·obtain⟨l,rfl⟩:∃l,j=n+l:=⟨j-n,by omega⟩;rw[NH h hk b9]
   split
   ·exact Wh.one (Nat.le_refl _)
   ·exact Wh.zero _
 ·rw[ms h hk];exact((tz _).mul (Wh.mk _ (b:=14) (j4 (h.bnd k hk)))).mono b9
theorem Qs:Gh n m (bM n m):=by
 have hz:∀j,j<n->(bM n m)[j]?.getD (0,0)=(0,1):=fun j hj=>by
  unfold bM;rw[List.getElem?_append_left (by simp[hj])];simp[List.getElem?_replicate,hj]
 have ho:∀j,n<=j->j<n+m->(bM n m)[j]?.getD (0,0)=(1,1):=fun j h1 h2=>by
  unfold bM;rw[List.getElem?_append_right (by simp[h1]),List.length_replicate,List.getElem?_replicate,if_pos b9];rfl
 refine⟨by simp[bM],fun j hj=>?_,fun j hj=>?_⟩
 ·by_cases e:j<n
  ·rw[hz j e];rfl
  ·rw[ho j b9 hj];rfl
 ·unfold o4;by_cases e:j<n
  ·rw[hz j e];exact Or.inl eK
  ·rw[ho j b9 hj];exact Or.inr (by rw[bp];rfl)
theorem lE(hj:j<n):o4 (bM n m) j=0:=by
 unfold o4 bM;rw[List.getElem?_append_left (by simp[hj])];simp[List.getElem?_replicate,hj];exact eK
theorem Nq(h1:n<=j)(h2:j<n+m):o4 (bM n m) j=1:=by
 unfold o4 bM;rw[List.getElem?_append_right (by simp[h1]),List.length_replicate,List.getElem?_replicate,if_pos b9,Option.getD_some,bp];rfl
theorem jy(hj:j<n+m):(bK (dP n) m)[j]?.getD (0,0)=(0,1):=by
 unfold bK dP;rw[List.replicate_append_replicate,List.getElem?_replicate,if_pos hj];rfl
theorem nJ:Gh n m (bK (dP n) m) :=
 ⟨by simp[bK,dP],fun j hj=>by rw[jy hj];rfl,fun j hj=>Or.inl (by unfold o4;rw[jy hj];exact eK)⟩
theorem Nc(h:TB n m T0 t)(hj:j<=n+m):fQ m (bK (dP n) m) t j=0:=by
 unfold fQ
 rw[cv (fun i hi=>by
  have:o4 (bK (dP n) m) (bQ t i)=0:=by unfold o4;rw[jy (h.fd.Dk i hi)];exact eK
  rw[this];grind)]
 by_cases e:j=n+m
 ·rw[e,mw nJ];grind
 ·rw[kG nJ b9];have:o4 (bK (dP n) m) j=0:=by unfold o4;rw[jy b9];exact eK
  rw[this];grind
def QZ(n m:Nat)(t:Tb):Prop:=∀i,i<m->n<=bQ t i->TQ t i (n+m)=0
theorem OW(h:TB n m T0 t)(hi:i<m)(hj:j<=n+m):Al (t.at i j)=true↔TQ t i j≠0:=by
 have hv:=h.val hi hj;unfold Al;rw[decide_eq_true_eq,<-hv.2];constructor
 ·intro hne e;exact hne (fV hv.1 kD (by rw[e,eK]))
 ·intro hne e;exact hne (by rw[e,eK])
theorem qi{n m:Nat}{T0:Nat->Nat->Rat}{t:Tb}{f:Nat}(h:TB n m T0 t)(ha:QZ n m t)(hf:m<=f):∀k,k<=m->∃s,br n (t,f) k=some s/\TB n m T0 s.1/\QZ n m s.1/\f<=s.2+k
 | 0,_=>⟨_,rfl,h,ha,by simp⟩
 | k+1,hk=>by
   obtain⟨s,e0,h0,a0,f0⟩:=qi h ha hf k b9;simp only[br,e0,Option.bind_some];unfold gl;have Df:=mu h0.inv (i:=k) b9;rw[Df.1];by_cases h1:((bQ s.1 k:Nat):Int)<(n:Nat)
   ·rw[if_pos h1];exact⟨s,rfl,h0,a0,by omega⟩
   ·rw[if_neg h1];by_cases h2:bU Al ((s.1.row k).take n)<0
    ·rw[if_pos h2];exact⟨s,rfl,h0,a0,by omega⟩
    ·rw[if_neg h2];obtain⟨I,O⟩:∃I,s.2=I+1:=⟨s.2-1,by omega⟩;rw[O];simp only;have hl:=(h0.inv.row k b9).1;unfold bU at h2⊢;cases e:((s.1.row k).take n).findIdx? Al with
     | none=>rw[e]at h2;simp at h2
     | some j =>
       simp only;obtain⟨hj,hp,_⟩:=List.findIdx?_eq_some_iff_getElem.1 e;have Ah:j<n:=by rw[List.length_take]at hj;omega
       rw[List.getElem_take]at hp;have G:s.1.at k j=(s.1.row k)[j]' b9:=by unfold Tb.at;rw[List.getElem?_eq_getElem b9,Option.getD_some]
       rw[<-G]at hp;have hne:=(OW h0 (show k<m by omega) (show j<=n+m by omega)).1 hp;have AR:=a0 k b9 b9;have zU:∀i,i<m->As (TQ s.1) k j i (n+m)=if i=k then 0 else TQ s.1 i (n+m):=fun i hi=>by
        unfold As;rw[AR];by_cases e:i=k
        ·rw[if_pos e,if_pos e];grind
        ·rw[if_neg e,if_neg e];grind
       obtain⟨t',p1,p2,K,J⟩:=qY h0 (show k<m by omega) (show j<n+m by omega) hne (fun i hi=>by
        rw[zU i hi]
        split
        ·exact Rat.le_refl
        ·exact h0.pos i hi)
       rw[p1];refine⟨_,rfl,p2,fun i hi hb=>?_,by simp only;omega⟩;rw[K i _ hi (Nat.le_refl _),zU i hi]
       split
       ·rfl
       ·next e =>
        refine a0 i hi ?_;have:=J i hi;simp only at hb;rw[this]at hb;unfold Dy at hb;rw[if_neg e]at hb;exact hb
theorem tB{n m:Nat}{T0:Nat->Nat->Rat}{t:Tb}(h:TB n m T0 t):∀k,k<=m->(yM t k).length=n+m/\∀j,j<n+m->o5 ((yM t k)[j]?.getD (0,0))=true/\o4 (yM t k) j=o0 (fun i=>if bQ t i=j then TQ t i (n+m) else 0) k
 | 0,_=>by
   have hN:t.q8.toNat+t.rows.length=n+m:=by have:=h.inv.q8;have:=h.inv.len;omega
   refine⟨by simp[yM,hN],fun j hj=>?_⟩;have e:(yM t 0)[j]?.getD (0,0)=(0,1):=by simp[yM,hN,List.getElem?_replicate,hj]
   rw[e];refine⟨rfl,?_⟩;unfold o4;rw[e,eK];rfl
 | k+1,hk=>by
   obtain⟨hl,hs⟩:=tB h k b9;have hN:t.q8.toNat+t.rows.length=n+m:=by have:=h.inv.q8;have:=h.inv.len;omega
   have hb:=mu h.inv (i:=k) b9;have hv:=h.val (i:=k) (j:=n+m) b9 (Nat.le_refl _);have e1:(t.basis[k]?.getD 0).toNat=bQ t k:=rfl;refine⟨by simp only[yM];rw[List.length_set,hl],fun j hj=>?_⟩;simp only[yM,hN,e1,o0];unfold o4;by_cases e:bQ t k=j
   ·subst e;rw[if_pos rfl,List.getElem?_set_self (by rw[hl];exact hb.2),Option.getD_some];refine⟨hv.1,?_⟩
    rw[hv.2,cv (fun i hi=>by
     rw[if_neg];intro e;have h1:=h.fd.unit k k b9 b9;have h2:=h.fd.unit k i b9 b9;rw[e,h1,if_pos rfl,if_neg b9]at h2
     exact absurd h2 (by decide))]
    grind
   ·rw[if_neg e,List.getElem?_set_ne e];refine⟨(hs j hj).1,?_⟩;have:=(hs j hj).2;unfold o4 at this;rw[this];grind
end Go.Proofs.YtalmoolkhcgmmaaGreat
