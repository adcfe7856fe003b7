import Derived.Test.YtalmoolkhcgmmaaGreatNqAltG13
import Derived.Test.YtalmoolkhcgmmaaGreatNqAltG14
import Derived.Test.YtalmoolkhcgmmaaGreatNqAltG25
set_option linter.unusedVariables false
set_option linter.unusedSimpArgs false
namespace Go.Proofs.YtalmoolkhcgmmaaGreat
variable{i j b a α m N v:Nat}{B T0 T:Nat->Nat->Rat}{x y:Rat}{β:Nat->Nat}
theorem pJ{f:Nat->Rat}:∀{m},0<o0 f m->∃i,i<m/\0<f i
 | 0,h=>absurd h (by simp only[o0];grind)
 | m+1,h=>by
   simp only[o0]at h;by_cases hm:0<f m
   ·exact⟨m,by omega,hm⟩
   ·obtain⟨i,hi,hf⟩:=pJ (f:=f) (m:=m) (by grind);exact⟨i,by omega,hf⟩
theorem ta(s:Nat->Nat):∀L,0<L->∃q,q<L/\∀k,k<L->s k<=s q
 | 0,h=>absurd h b9
 | 1,_=>⟨0,by omega,fun k hk=>by
    obtain rfl:k=0:=by omega
    exact Nat.le_refl _⟩
 | L+2,_=>by
   obtain⟨q,hq,hm⟩:=ta s (L+1) b9;by_cases h:s q<=s (L+1)
   ·exact⟨L+1,by omega,fun k hk=>by
     by_cases k7:k=L+1
     ·rw[k7];exact Nat.le_refl _
     ·exact Nat.le_trans (hm k b9) h⟩
   ·exact⟨q,by omega,fun k hk=>by
     by_cases k7:k=L+1
     ·rw[k7];omega
     ·exact hm k b9⟩
section
variable{m N n L:Nat}{T:Nat->Nat->Nat->Rat}{β:Nat->Nat->Nat}{f:Nat->Nat->Rat}{r s:Nat->Nat}
theorem TZ(hu:∀k,k<=L->∀i j,i<m->j<m->T k i (β k j)=if i=j then 1 else 0){k i j:Nat}(hk:k<=L)(hi:i<m)(hj:j<m)(h:β k i=β k j):i=j:=by
 have h1:=hu k hk i i hi hi;have h2:=hu k hk i j hi hj;rw[<-h,h1,if_pos rfl]at h2;by_cases e:i=j
 ·exact e
 ·rw[if_neg e]at h2;grind
theorem Yi(hu:∀k,k<=L->∀i j,i<m->j<m->T k i (β k j)=if i=j then 1 else 0)
 (hz:∀k,k<=L->∀i,i<m->f k (β k i)=0) (hp:∀k,k<=L->∀i,i<m->0<=T k i N)
 (ZU:∀k,k<=L->∀i,i<m->β k i<N)
 (e1:∀p q,p<=L->q<=L->∀v,v<=N->f p v=f q v-o0 (fun i=>T p i v*f q (β p i)) m)
 (e2:∀p q,p<=L->q<=L->∀k v,k<m->v<=N->T q k v=o0 (fun i=>T p i v*T q k (β p i)) m)
 (hr:∀k,k<L->r k<m) (hs:∀k,k<L->s k<N)
 (J:∀k,k<L->∀i,i<m->β (k+1) i=if i=r k then s k else β k i)
 (yP:∀k,k<L->f k (s k)<0) (I:∀k,k<L->∀j,j<s k->0<=f k j)
 (B1:∀k,k<L->0<T k (r k) (s k))
 (Z:∀k,k<L->∀i,i<m->0<T k i (s k)->T k i N=0->T k (r k) N=0->β k (r k)<=β k i)
 (hL:0<L) (W:∀v,(∃i,i<m/\β 0 i=v)↔(∃i,i<m/\β L i=v)):False:=by
 have WX:∀k,k<L->∀i,i<m->β k i≠s k:=fun k hk i hi h=>by
  have h1:=hz k b9 i hi;have h2:=yP k hk;rw[h]at h1;grind
 have hstep:∀k,k<L->f (k+1) N=f k N-T (k+1) (r k) N*f k (s k):=fun k hk=>by
  rw[e1 (k+1) k b9 b9 N (Nat.le_refl _)];have:o0 (fun i=>T (k+1) i N*f k (β (k+1) i)) m=T (k+1) (r k) N*f k (s k):=by
   rw[cV (hr k hk) (fun i hi hne=>by rw[J k hk i hi,if_neg hne,hz k b9 i hi];grind),J k hk _ (hr k hk),if_pos rfl]
  rw[this]
 have Wo:∀k,k<L->f k N<=f (k+1) N:=fun k hk=>by
  rw[hstep k hk];have h1:=hp (k+1) b9 (r k) (hr k hk);have h2:=yP k hk;have:T (k+1) (r k) N*f k (s k)<=0:=by
   have:=Rat.mul_nonneg h1 (show 0<=- f k (s k)by grind)
   grind
  grind
 have Rr:∀d k,k+d<=L->f k N<=f (k+d) N:=by
  intro d
  induction d with
  | zero=>intro k _;exact Rat.le_refl
  | succ d ih=>intro k hk;exact Rat.le_trans (ih k b9) (Wo (k+d) b9)
 have hends:f 0 N=f L N:=by
  rw[e1 0 L b9 (Nat.le_refl _) N (Nat.le_refl _),cv (fun i hi=>by
   obtain⟨j,hj,e⟩:=(W (β 0 i)).1 ⟨i,hi,rfl⟩
   rw[<-e,hz L (Nat.le_refl _) j hj];grind)]
  grind
 have Fk:∀k,k<L->T (k+1) (r k) N=0:=fun k hk=>by
  have h1:=Rr k 0 b9;have h2:=Rr (L-(k+1)) (k+1) b9;rw[Nat.zero_add]at h1;rw[show k+1+(L-(k+1))=L by omega]at h2;have h3:=Wo k hk;have h4:=hstep k hk;have h5:=yP k hk;have h6:T (k+1) (r k) N*f k (s k)=0:=by grind
  rcases Rat.mul_eq_zero.1 h6 with h|h
  ·exact h
  ·rw[h]at h5;grind
 have o9:∀k,k<L->∀i,i<m->T k i N=if i=r k then 0 else T (k+1) i N:=fun k hk i hi=>by
  rw[e2 (k+1) k b9 b9 i N hi (Nat.le_refl _)];have:o0 (fun l=>T (k+1) l N*T k i (β (k+1) l)) m=o0 (fun l=>if l=i then(if i=r k then 0 else T (k+1) i N) else 0) m:=aq fun l hl=>by
   rw[J k hk l hl];by_cases R:l=r k
   ·rw[if_pos R,R,Fk k hk];by_cases e:r k=i
    ·rw[if_pos e,if_pos e.symm];grind
    ·rw[if_neg e];grind
   ·rw[if_neg R,hu k b9 i l hi hl];by_cases e:l=i
    ·subst e;rw[if_pos rfl,if_pos rfl,if_neg R];grind
    ·rw[if_neg (fun h=>e h.symm),if_neg e];grind
  rw[this,cV hi (fun l _ hne=>if_neg hne),if_pos rfl]
 have hZ:∀k,k<L->∀v,(∀i,i<m->β k i=v->T k i N=0)↔(∀i,i<m->β (k+1) i=v->T (k+1) i N=0):=by
  intro k hk v;constructor
  ·intro h i hi hv;rw[J k hk i hi]at hv;by_cases e:i=r k
   ·rw[e];exact Fk k hk
   ·rw[if_neg e]at hv;have:=h i hi hv;rw[o9 k hk i hi,if_neg e]at this;exact this
  ·intro h i hi hv;rw[o9 k hk i hi];by_cases e:i=r k
   ·rw[if_pos e]
   ·rw[if_neg e];exact h i hi (by rw[J k hk i hi,if_neg e];exact hv)
 have hZ0:∀v,∀d k,k+d<=L->((∀i,i<m->β k i=v->T k i N=0)↔(∀i,i<m->β (k+d) i=v->T (k+d) i N=0)):=by
  intro v d
  induction d with
  | zero=>intro k _;exact Iff.rfl
  | succ d ih=>intro k hk;exact(ih k b9).trans (hZ (k+d) b9 v)
 have hzero:∀a,a<L->∀k,k<=L->∀i,i<m->β k i=s a->T k i N=0:=by
  intro a ha k hk;have h0:∀i,i<m->β a i=s a->T a i N=0:=fun i hi h=>absurd h (WX a ha i hi)
  have h1:=(hZ0 (s a) a 0 b9).2 (by rw[Nat.zero_add];exact h0);have h2:=(hZ0 (s a) k 0 b9).1 h1;rw[Nat.zero_add]at h2;exact h2
 have Rt:∀v,(∀a,a<L->s a≠v)->∀d k,k+d<=L->(∃i,i<m/\β (k+d) i=v)->∃i,i<m/\β k i=v:=by
  intro v hv d
  induction d with
  | zero=>intro k _ h;exact h
  | succ d ih =>
    intro k hk ⟨i,hi,e⟩;refine ih k b9 ⟨i,hi,?_⟩;have:=J (k+d) b9 i hi;rw[show k+(d+1)=k+d+1 by omega]at e;rw[this]at e
    split at e
    ·exact absurd e (hv _ b9)
    ·exact e
 have hF:∀v p q,p<=L->q<=L->(∃i,i<m/\β p i=v)->(¬∃i,i<m/\β q i=v)->∃a,a<L/\s a=v:=by
  intro v p q G hqL h1 h2;refine Classical.byContradiction fun K=>h2 ?_
  have hv:∀a,a<L->s a≠v:=fun a ha e=>K ⟨a,ha,e⟩
  have h3:=Rt v hv p 0 b9 (by rw[Nat.zero_add];exact h1);have h4:=(W v).1 h3;have h5:=Rt v hv (L-q) q b9 (by rw[show q+(L-q)=L by omega];exact h4);exact h5
 obtain⟨q,hq,l9⟩:=ta s L hL;obtain⟨t,ht⟩:=b8 (s q);rw[<-ht]at l9;have Ti:∃p,p<L/\β p (r p)=t:=by
  refine Classical.byContradiction fun K=>?_
  have Ri:∀d k,k+d<=L->(∃i,i<m/\β k i=t)->∃i,i<m/\β (k+d) i=t:=by
   intro d
   induction d with
   | zero=>intro k _ h;exact h
   | succ d ih =>
     intro k hk h;obtain⟨i,hi,e⟩:=ih k b9 h;refine⟨i,hi,?_⟩;rw[show k+(d+1)=k+d+1 by omega,J (k+d) b9 i hi,if_neg (fun e2=>K ⟨k+d,by omega,by rw[<-e2];exact e⟩)];exact e
  have h1:∃i,i<m/\β (q+1) i=t:=⟨r q,hr q hq,by rw[J q hq _ (hr q hq),if_pos rfl,ht]⟩;have h2:=Ri (L-(q+1)) (q+1) b9 h1;rw[show q+1+(L-(q+1))=L by omega]at h2;have h3:=Ri q 0 b9 ((W t).2 h2);rw[Nat.zero_add]at h3;obtain⟨i,hi,e⟩:=h3;exact WX q hq i hi (by rw[e,ht])
 obtain⟨p,G,U⟩:=Ti;have hst:s p<t:=by
  have h1:=l9 p G;have h2:=WX p G (r p) (hr p G);rw[U]at h2;omega
 have Fm:=e1 p q b9 b9 (s p) (j4 (hs p G));have hsq:0<=f q (s p):=I q hq (s p) (by rw[<-ht];exact hst);have hsp:=yP p G;obtain⟨i,hi,zq⟩:=pJ (f:=fun i=>T p i (s p)*f q (β p i)) (m:=m) (by grind);have O:f q (β p i)≠0:=fun h=>by rw[h]at zq;grind
 obtain⟨a,ha,Ef⟩:=hF (β p i) p q b9 b9 ⟨i,hi,rfl⟩ (fun⟨j,hj,e⟩=>O (by rw[<-e];exact hz q b9 j hj));have hle:β p i<=t:=by rw[<-Ef];exact l9 a ha
 by_cases hit:β p i=t
 ·have:i=r p:=TZ (k:=p) hu b9 hi (hr p G) (by rw[hit,U]);subst this;have h1:=B1 p G;have h2:=yP q hq;rw[<-ht,<-hit]at h2;have:=Rat.mul_pos h1 (show 0 < -f q (β p (r p))by grind)
  grind
 ·have Ia:0<=f q (β p i):=I q hq _ (by rw[<-ht];omega);have u:0<T p i (s p):=by
   refine Classical.byContradiction fun h=>?_
   have:=Rat.mul_nonneg (show 0<=- T p i (s p)by grind) Ia
   grind
  have h1:=hzero a ha p b9 i hi Ef.symm;have h2:=hzero q hq p b9 (r p) (hr p G) (by rw[U,ht]);have h3:=Z p G i hi u h1 h2;rw[U]at h3;omega
end
theorem fw{f g:Nat->Rat}:∀{m},(∀k,k<m->f k<=g k)->o0 f m<=o0 g m
 | 0,_=>Rat.le_refl
 | m+1,h=>by
   have h1:=fw (m:=m) (fun k hk=>h k b9);have h2:=h m b9;simp only[o0];grind
theorem jh(l:j9)(j:Nat)(hj:j<l.length):o4 (aw l) j=((l[j]?.getD 0:Int):Rat):=by
 unfold o4;rw[fX hj,bp]
def C4(A:j7)(i j:Nat):Int:=(A[i]?.getD [])[j]?.getD 0
structure Cert(A:j7)(B:j9)(C:j6)(r:AT):Prop where
 xl:r.X.length=C.length
 yl:r.Y.length=A.length
 bl:B.length=A.length
 x0:∀j,j<C.length->0<=o4 r.X j
 row:∀i,i<A.length->o0 (fun j=>(C4 A i j:Rat)*o4 r.X j) C.length=((B[i]?.getD 0:Int):Rat)
 wX:∀j,j<C.length->o0 (fun i=>o4 r.Y i*(C4 A i j:Rat)) A.length<=o4 C j
 cx:val r.value=o0 (fun j=>o4 C j*o4 r.X j) C.length
 yb:val r.value=o0 (fun i=>o4 r.Y i*((B[i]?.getD 0:Int):Rat)) A.length
theorem nK{A:j7}{B:j9}{C:j6}(ok:xF A B C=true){r:AT}(hc:aD aV A B C r=true)(hs:r.status=1):Cert A B C r:=by
 obtain⟨h1,h2,h3,h4,h5,h6⟩:=ft ok;unfold aD at hc;rw[if_pos hs]at hc;obtain⟨hf,hc⟩:=both hc;obtain⟨hy,hc⟩:=both hc;obtain⟨hb,hm⟩:=both hc;unfold dp at hf;obtain⟨K,hf⟩:=both hf;obtain⟨zq,hg⟩:=both hf;have K:=of_decide_eq_true K;have U:=of_decide_eq_true hy;have R:∀j,j<r.X.length->o5 (r.X[j]?.getD (0,0))=true/\0<=(r.X[j]?.getD (0,0)).1:=by
  intro j hj;have:=List.all_eq_true.1 zq (r.X[j]) (List.getElem_mem hj);obtain⟨a,b⟩:=both this;rw[List.getElem?_eq_getElem hj,Option.getD_some];exact⟨a,of_decide_eq_true b⟩
 unfold gR at hm;cases e1:wY C r.X with
 | none=>rw[e1]at hm;cases hm
 | some x =>
   cases e2:wY r.Y (aw B)with
   | none=>rw[e1,e2]at hm;cases hm
   | some y =>
     rw[e1,e2]at hm;obtain⟨O,I⟩:=both hm;have O:=of_decide_eq_true O;have J:=of_decide_eq_true I;obtain⟨d1,_,_,d4⟩:=dK e1;obtain⟨f1,_,_,f4⟩:=dK e2;refine⟨K,by rw[U,h3],h3,fun j hj=>(eC (R j b9).1).1 (R j b9).2,fun i hi=>?_,fun j hj=>?_,?_,?_⟩
     ·have:=of_decide_eq_true (List.all_eq_true.1 hg i (List.mem_range.2 hi));obtain⟨k1,_,_,G⟩:=dK this;rw[cz]at k1 G;rw[bp]at G;rw[G,k1,K];exact aq fun j hj=>by rw[jh _ _ b9];rfl
     ·have:=List.all_eq_true.1 hb j (List.mem_range.2 hj);unfold aV at this;cases e3:wY r.Y (aw (xD A j))with
      | none=>rw[e3]at this;cases this
      | some v =>
        rw[e3]at this;obtain⟨s1,s2⟩:=both this;obtain⟨g1,g2,g3,g4⟩:=fW s1;have Jy:=(eC g3).1 (of_decide_eq_true s2);obtain⟨k1,_,_,G⟩:=dK e3;have EP:(xD A j).length=A.length:=by unfold xD;simp
        rw[cz,EP]at k1;have e4:o0 (fun i=>o4 r.Y i*(C4 A i j:Rat)) A.length=val v:=by
         rw[G,k1];exact aq fun i hi=>by rw[jh _ _ (by rw[EP];exact hi),nL _ _ _ hi];rfl
        rw[e4]
        show val v<=val (C[j]?.getD (0,0))
        grind
     ·rw[<-J,d4]
     ·rw[<-J,O,f4,f1,cz,h3];exact aq fun i hi=>by rw[jh _ _ b9]
open Go.RowKit
theorem cK(c:Rat)(f:Nat->Rat):∀m,o0 (fun k=>c*f k) m=c*o0 f m
 | 0=>by simp only[o0];grind
 | m+1=>by simp only[o0];rw[cK c f m];grind
theorem fU(f:Nat->Nat->Rat)(m:Nat):∀n,o0 (fun j=>o0 (fun i=>f i j) m) n=o0 (fun i=>o0 (fun j=>f i j) n) m
 | 0=>by
   simp only[o0];exact(cv fun _ _=>rfl).symm
 | n+1=>by
   simp only[o0];rw[fU f m n];have:=dd (fun i=>o0 (fun j=>f i j) n) (fun i=>f i n) 1 m;simp only[Rat.one_mul]at this;rw[this]
def Wh(x:Rat)(b:Nat):Prop:=∃z:Int,x=(z:Rat)/\z.natAbs<=b
theorem Wh.mk(z:Int)(h:z.natAbs<=b):Wh (z:Rat) b:=⟨z,rfl,h⟩
theorem Wh.mono(h:Wh x a)(JF:a<=b):Wh x b:=by
 obtain⟨z,e,hz⟩:=h;exact⟨z,e,Nat.le_trans hz JF⟩
theorem Wh.add(h:Wh x a)(k:Wh y b):Wh (x+y) (a+b):=by
 obtain⟨z,rfl,hz⟩:=h;obtain⟨u,rfl,hu⟩:=k;exact⟨z+u,by rw[Rat.intCast_add],by omega⟩
theorem Wh.neg(h:Wh x a):Wh (-x) a:=by
 obtain⟨z,rfl,hz⟩:=h;exact⟨-z,by rw[Rat.intCast_neg],by omega⟩
theorem Wh.sub(h:Wh x a)(k:Wh y b):Wh (x-y) (a+b):=by
 rw[Rat.sub_eq_add_neg];exact h.add k.neg
theorem Wh.mul(h:Wh x a)(k:Wh y b):Wh (x*y) (a*b):=by
 obtain⟨z,rfl,hz⟩:=h;obtain⟨u,rfl,hu⟩:=k;exact⟨z*u,by rw[Rat.intCast_mul],by rw[Int.natAbs_mul];exact Nat.mul_le_mul hz hu⟩
theorem Wh.zero(b:Nat):Wh 0 b:=⟨0,rfl,by omega⟩
theorem Wh.one(h:1<=b):Wh 1 b:=⟨1,rfl,by omega⟩
def m3(B:Nat->Nat->Rat)(a b c p q r:Nat):Rat:=B a p*(B b q*B c r-B b r*B c q)-B a q*(B b p*B c r-B b r*B c p)+B a r*(B b p*B c q-B b q*B c p)
def GK(B:Nat->Nat->Rat)(p q r:Nat)(a:Nat->Rat):Rat:=a 0*m3 B 1 2 3 p q r-a 1*m3 B 0 2 3 p q r+a 2*m3 B 0 1 3 p q r-a 3*m3 B 0 1 2 p q r
def FL(B:Nat->Nat->Rat)(i:Nat)(a:Nat->Rat):Rat:=match i with
 | 0=>GK B 1 2 3 a
 | 1=>- GK B 0 2 3 a
 | 2=>GK B 0 1 3 a
 | _=>- GK B 0 1 2 a
def AN(B:Nat->Nat->Rat):Rat:=FL B 0 fun k=>B k 0
theorem TS(B:Nat->Nat->Rat){a y:Nat->Rat}(h:∀k,k<4->a k=B k 0*y 0+B k 1*y 1+B k 2*y 2+B k 3*y 3)(hi:i<4):FL B i a=y i*AN B:=by
 have h0:=h 0 b9;have h1:=h 1 b9;have h2:=h 2 b9;have h3:=h 3 b9
 rcases(by omega:i=0∨i=1∨i=2∨i=3)with rfl|rfl|rfl|rfl
 all_goals
  simp only[AN,FL,GK,m3,h0,h1,h2,h3]
  grind
theorem Nj(B:Nat->Nat->Rat)(i:Nat)(hi:i<4)(a:Nat->Rat):AN (fun k l=>if l=i then a k else B k l)=FL B i a:=by
 rcases(by omega:i=0∨i=1∨i=2∨i=3)with rfl|rfl|rfl|rfl
 all_goals
  simp[AN,FL,GK,m3]
 all_goals grind
theorem VW(hB:∀k l,Wh (B k l) 1)(a b c p q r:Nat):Wh (m3 B a b c p q r) 6:=by
 have t:∀x1 x2 x3 x4:Rat,Wh x1 1->Wh x2 1->Wh x3 1->Wh x4 1->Wh (x1*x2-x3*x4) 2:=fun _ _ _ _ h1 h2 h3 h4=>(h1.mul h2).sub (h3.mul h4)
 exact(((hB a p).mul (t _ _ _ _ (hB b q) (hB c r) (hB b r) (hB c q))).sub ((hB a q).mul (t _ _ _ _ (hB b p) (hB c r) (hB b r) (hB c p)))).add ((hB a r).mul (t _ _ _ _ (hB b p) (hB c q) (hB b q) (hB c p)))
theorem kH(hB:∀k l,Wh (B k l) 1){a:Nat->Rat}(ha:∀k,Wh (a k) α)(p q r:Nat):Wh (GK B p q r a) (24*α):=by
 have t:∀k x y z,Wh (a k*m3 B x y z p q r) (α*6):=fun k x y z=>(ha k).mul (VW hB _ _ _ _ _ _)
 exact((((t 0 1 2 3).sub (t 1 0 2 3)).add (t 2 0 1 3)).sub (t 3 0 1 2)).mono b9
theorem sJ(hB:∀k l,Wh (B k l) 1){a:Nat->Rat}(ha:∀k,Wh (a k) α)(i:Nat):Wh (FL B i a) (24*α):=by
 unfold FL
 split
 ·exact kH hB ha _ _ _
 ·exact(kH hB ha _ _ _).neg
 ·exact kH hB ha _ _ _
 ·exact(kH hB ha _ _ _).neg
def y3(m:Nat)(T0:Nat->Nat->Rat)(β:Nat->Nat)(k l:Nat):Rat:=if k<m/\l<m then T0 k (β l) else if k=l then 1 else 0
def DX(m:Nat)(a:Nat->Rat)(k:Nat):Rat:=if k<m then a k else 0
structure FD(m N:Nat)(T0 T:Nat->Nat->Rat)(β:Nat->Nat):Prop where
 unit:∀i k,i<m->k<m->T i (β k)=if i=k then 1 else 0
 back:∀k j,k<m->j<=N->T0 k j=o0 (fun i=>T0 k (β i)*T i j) m
 Z7:∀k,k<m->∃M:Nat->Rat,∀j,j<=N->T k j=o0 (fun l=>M l*T0 l j) m
 Dk:∀i,i<m->β i<N
 Ot:AN (y3 m T0 β)≠0
def Red(m N:Nat)(T0:Nat->Nat->Rat)(c f:Nat->Rat):Prop:=∃M:Nat->Rat,∀j,j<=N->f j=c j+o0 (fun l=>M l*T0 l j) m
theorem pH(f:Nat->Rat)(c:Rat)(m:Nat):o0 (fun k=>f k*c) m=o0 f m*c:=by
 rw[Rat.mul_comm,<-cK];exact aq fun k _=>Rat.mul_comm _ _
theorem rE(f g:Nat->Rat)(m:Nat):o0 (fun k=>f k+g k) m=o0 f m+o0 g m:=by
 have:=dd f g 1 m;rw[Rat.one_mul]at this;rw[<-this];exact aq fun k _=>by rw[Rat.one_mul]
theorem comb(h:FD m N T0 T β)(M:Nat->Rat)(hv:v<=N):o0 (fun l=>M l*T0 l v) m=o0 (fun i=>o0 (fun l=>M l*T0 l (β i)) m*T i v) m:=by
 have e:∀i,o0 (fun l=>M l*T0 l (β i)) m*T i v=o0 (fun l=>M l*T0 l (β i)*T i v) m:=fun i=>(pH _ _ _).symm
 rw[aq (g:=fun i=>o0 (fun l=>M l*T0 l (β i)*T i v) m) fun i _=>e i,fU];refine aq fun l hl=>?_
 rw[h.back l v hl hv,<-cK];refine aq fun i _=>?_
 rw[Rat.mul_assoc]
theorem FD.e2{G:Nat->Nat->Rat}{β':Nat->Nat}(h:FD m N T0 T β)(h':FD m N T0 G β'){k:Nat}(hk:k<m)(hv:v<=N):G k v=o0 (fun i=>T i v*G k (β i)) m:=by
 obtain⟨M,I⟩:=h'.Z7 k hk;rw[I v hv,comb h M hv];refine aq fun i hi=>?_
 rw[I (β i) (j4 (h.Dk i hi)),Rat.mul_comm]
theorem FD.e1(h:FD m N T0 T β){c f G:Nat->Rat}(hf:Red m N T0 c f)(K:Red m N T0 c G)(hz:∀i,i<m->f (β i)=0)(hv:v<=N):f v=G v-o0 (fun i=>T i v*G (β i)) m:=by
 obtain⟨M,J⟩:=hf;obtain⟨I,O⟩:=K;have e:∀j,j<=N->G j-f j=o0 (fun l=>(I l-M l)*T0 l j) m:=fun j hj=>by
  rw[J j hj,O j hj];have:=dd (fun l=>I l*T0 l j) (fun l=>M l*T0 l j) (-1) m;have e2:o0 (fun l=>(I l-M l)*T0 l j) m=o0 (fun l=>I l*T0 l j+-1*(M l*T0 l j)) m:=aq fun l _=>by grind
  rw[e2,this];grind
 have e3:=e v hv;rw[comb h _ hv]at e3;have e4:o0 (fun i=>o0 (fun l=>(I l-M l)*T0 l (β i)) m*T i v) m=o0 (fun i=>T i v*G (β i)) m:=aq fun i hi=>by
  rw[<-e (β i) (j4 (h.Dk i hi)),hz i hi];grind
 rw[e4]at e3
 grind
def As(T:Nat->Nat->Rat)(r c:Nat)(i j:Nat):Rat:=if i=r then T r j/T r c else T i j-T i c*(T r j/T r c)
def Dy(β:Nat->Nat)(r c:Nat)(i:Nat):Nat:=if i=r then c else β i
theorem Lw(h:FD m N T0 T β)(hm:m<=4)(hj:j<=N)(k:Nat)(hk:k<4):
 DX m (fun k=>T0 k j) k=y3 m T0 β k 0*DX m (fun i=>T i j) 0+y3 m T0 β k 1*DX m (fun i=>T i j) 1+y3 m T0 β k 2*DX m (fun i=>T i j) 2+y3 m T0 β k 3*DX m (fun i=>T i j) 3:=by
 unfold DX y3;by_cases G:k<m
 ·rw[if_pos G]
  show T0 k j=_;rw[h.back k j G hj]
  rcases(by omega:m=1∨m=2∨m=3∨m=4)with rfl|rfl|rfl|rfl
  all_goals
   simp[o0,G]
  all_goals try grind
 ·rw[if_neg G]
  rcases(by omega:m=0∨m=1∨m=2∨m=3)with rfl|rfl|rfl|rfl
  all_goals
   rcases(by omega:k=0∨k=1∨k=2∨k=3)with rfl|rfl|rfl|rfl
  all_goals first|omega|skip
  all_goals simp
  all_goals try grind
theorem FD.TT(h:FD m N T0 T β)(hm:m<=4)(hi:i<m)(hj:j<=N):FL (y3 m T0 β) i (DX m fun k=>T0 k j)=T i j*AN (y3 m T0 β):=by
 rw[TS (y3 m T0 β) (Lw h hm hj) (show i<4 by omega)];unfold DX;rw[if_pos hi]
theorem FD.small(h:FD m N T0 T β)(hm:m<=4)(h0:∀k j,k<m->j<N->Wh (T0 k j) 1)(h1:∀k,k<m->Wh (T0 k N) α)(G:1<=α):
 Wh (AN (y3 m T0 β)) 24/\∀i j,i<m->j<=N->Wh (T i j*AN (y3 m T0 β)) (24*α):=by
 have hB:∀k l,Wh (y3 m T0 β k l) 1:=fun k l=>by
  unfold y3
  split
  ·next e=>exact h0 k _ e.1 (h.Dk l e.2)
  ·split
   ·exact Wh.one (Nat.le_refl _)
   ·exact Wh.zero _
 refine⟨?_,fun i j hi hj=>?_⟩
 ·have:=sJ hB (a:=fun k=>y3 m T0 β k 0) (fun k=>hB k 0) 0;exact this
 ·rw[<-h.TT hm hi hj];refine sJ hB (fun k=>?_) i;unfold DX
  split
  ·next e =>
   by_cases hjN:j=N
   ·rw[hjN];exact h1 k e
   ·exact(h0 k j e b9).mono G
  ·exact Wh.zero _
theorem FD.pivot(h:FD m N T0 T β)(hm:m<=4){r c:Nat}(hr:r<m)(hc:c<N)(hp:T r c≠0):FD m N T0 (As T r c) (Dy β r c):=by
 have WX:∀k,k<m->k≠r->T r (β k)=0:=fun k hk hne=>by rw[h.unit r k hr hk,if_neg (fun e=>hne e.symm)]
 refine⟨?_,?_,?_,?_,?_⟩
 ·intro i k hi hk;unfold As Dy;by_cases e1:k=r
  ·rw[if_pos e1];by_cases e2:i=r
   ·rw[if_pos e2,if_pos (by rw[e1,e2])];grind
   ·rw[if_neg e2,if_neg (by rw[e1];exact e2)];grind
  ·rw[if_neg e1,WX k hk e1];by_cases e2:i=r
   ·rw[if_pos e2,if_neg (by rw[e2];exact fun e=>e1 e.symm)];grind
   ·rw[if_neg e2,h.unit i k hi hk];grind
 ·intro k j hk hj;have hb:=h.back k j hk hj;have I:=h.back k c hk b9;have e:o0 (fun i=>T0 k (Dy β r c i)*As T r c i j) m=o0 (fun i=>T0 k (β i)*T i j+(- (T r j/T r c))*(if i=r then(T0 k (β r)*T r c-T0 k c) else T0 k (β i)*T i c)) m:=aq fun i hi=>by
   unfold Dy As;by_cases e2:i=r
   ·subst e2;rw[if_pos rfl,if_pos rfl,if_pos rfl];grind
   ·rw[if_neg e2,if_neg e2,if_neg e2];grind
  rw[e,dd,<-hb];have e3:o0 (fun i=>if i=r then(T0 k (β r)*T r c-T0 k c) else T0 k (β i)*T i c) m=o0 (fun i=>T0 k (β i)*T i c+(-(T0 k c))*(if i=r then 1 else 0)) m:=aq fun i hi=>by
   by_cases e2:i=r
   ·subst e2;rw[if_pos rfl,if_pos rfl];grind
   ·rw[if_neg e2,if_neg e2];grind
  rw[e3,dd,<-I,cV hr (fun i _ hne=>if_neg hne),if_pos rfl]
  grind
 ·intro k hk;obtain⟨R,hR⟩:=h.Z7 r hr;obtain⟨K,G⟩:=h.Z7 k hk;by_cases e:k=r
  ·refine⟨fun l=>(1/T r c)*R l,fun j hj=>?_⟩;unfold As;rw[if_pos e,hR j hj];have:o0 (fun l=>1/T r c*R l*T0 l j) m=(1/T r c)*o0 (fun l=>R l*T0 l j) m:=by
    rw[<-cK];exact aq fun l _=>by rw[Rat.mul_assoc]
   rw[this];grind
  ·refine⟨fun l=>K l+(- (T k c/T r c))*R l,fun j hj=>?_⟩;unfold As;rw[if_neg e,hR j hj,G j hj];have:o0 (fun l=>(K l+(- (T k c/T r c))*R l)*T0 l j) m=o0 (fun l=>K l*T0 l j+(- (T k c/T r c))*(R l*T0 l j)) m:=aq fun l _=>by grind
   rw[this,dd];generalize o0 (fun l=>R l*T0 l j) m=u;generalize o0 (fun l=>K l*T0 l j) m=v
   grind
 ·intro i hi;unfold Dy
  split
  ·exact hc
  ·exact h.Dk i hi
 ·have e:y3 m T0 (Dy β r c)=fun k l=>if l=r then DX m (fun k=>T0 k c) k else y3 m T0 β k l:=by
   funext k l
   unfold y3 DX Dy;by_cases e1:l=r
   ·rw[if_pos e1,if_pos e1];by_cases e2:k<m
    ·rw[if_pos ⟨e2,by omega⟩,if_pos e2]
    ·rw[if_neg (fun e=>e2 e.1),if_neg e2,if_neg b9]
   ·rw[if_neg e1,if_neg e1]
  rw[e,Nj _ r b9,h.TT hm hr b9];intro h0
  rcases Rat.mul_eq_zero.1 h0 with h1|h1
  ·exact hp h1
  ·exact h.Ot h1
end Go.Proofs.YtalmoolkhcgmmaaGreat
