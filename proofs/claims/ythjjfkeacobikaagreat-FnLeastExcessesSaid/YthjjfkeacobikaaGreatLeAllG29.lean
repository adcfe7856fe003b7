import Derived.Test.YthjjfkeacobikaaGreatLeAllG28
import Derived.Test.YthjjfkeacobikaaGreatLeAllG27
import Derived.Test.YthjjfkeacobikaaGreatLeAllG24
set_option linter.unusedVariables false
set_option linter.unusedSimpArgs false
namespace Go.Proofs.YthjjfkeacobikaaGreat
theorem rowZ_dig {q:Nat} {y z:Nat->Rat} {V:List Int} {s:Int} (h:exZ q V y s=exZ q V z s):rowZ q (fun k=>y k+(-1)*z k) (digR q s)=0:=by
 have e:rowZ q (fun k=>y k+(-1)*z k) (digR q s)=zs q y s+(-1)*zs q z s:=by
  unfold rowZ zs;rw [<-dB];refine av fun j hj=>?_
  have:(digR q s)[j]?.getD 0=bitI (hasP s (j:Int)):=by
   unfold digR;rw [List.getElem?_map,List.getElem?_range hj]
   rfl
  rw [this]
  grind
 rw [e];unfold exZ at h
 grind
theorem hJ {p:Int} {V:List Int} {L:List (Int × Int × Int)} (hg:aN p V=true) (hd:cO p V L=true) {y z:Nat->Rat} (hy:ep p.toNat V L y) (hz:ep p.toNat V L z):∀ k,k<p.toNat->y k=z k:=by
 obtain ⟨_,_,hp,hp1,hp5,_⟩:=fp hg;unfold cO at hd;have hd:=of_decide_eq_true hd;rw [nu] at hd;unfold fV at hd
 split at hd
 ·have hr:(runM mixR ((((V.length:Int)-1) :: L.map (·.1)).map (digR p.toNat)) p.toNat).2=p.toNat:=by omega
  have hall:∀ s ∈ ((V.length:Int)-1) :: L.map (·.1),exZ p.toNat V y s=exZ p.toNat V z s:=fun s hs=>by
   rcases List.mem_cons.1 hs with rfl|hs
   ·rw [hy.grand,hz.grand]
   ·obtain ⟨f,hf,rfl⟩:=List.mem_map.1 hs;rw [hy.fixed f hf,hz.fixed f hf]
  have hrow:∀ i,i<((((V.length:Int)-1) :: L.map (·.1)).map (digR p.toNat)).length->∃ s ∈ ((V.length:Int)-1) :: L.map (·.1),((((V.length:Int)-1) :: L.map (·.1)).map (digR p.toNat))[i]?.getD []=digR p.toNat s:=fun i hi=>by
   rw [List.getElem?_eq_getElem hi,Option.getD_some];obtain ⟨s,hs,e⟩:=List.mem_map.1 (List.getElem_mem hi);exact ⟨s,hs,e.symm⟩
  have h0:=sF (n:=p.toNat) (z:=fun k=>y k+(-1)*z k) (fun i hi=>by
   obtain ⟨s,_,e⟩:=hrow i hi
   rw [e,gT]) (fun i hi=>by
   obtain ⟨s,hs,e⟩:=hrow i hi;rw [e]
   exact rowZ_dig (hall s hs)) hr
  intro k hk;have:=h0 k hk;change y k+(-1)*z k=0 at this
  grind
 ·omega
theorem iR {p:Int} {V:List Int}:∀ {f k:Nat} {L:List (Int × Int × Int)},(nucF p V f L k).ok=true->cO p V (nucF p V f L k).st=true
 | 0,k,L,h=>by cases h
 | f+1,k,L,h=>by
   by_cases hok:stOk p V L=true/\(an p.toNat V L).status=1
   ·by_cases hd:cO p V (bD V L (an p.toNat V L))=true
    ·rw [nucF,if_pos hok,if_pos hd];exact hd
    ·have e:nucF p V (f+1) L k=nucF p V f (bD V L (an p.toNat V L)) (k+1):=by rw [nucF,if_pos hok,if_neg hd]
     rw [e] at h ⊢;exact iR h
   ·rw [nucF,if_neg hok] at h;cases h
theorem mT {q:Nat} {V:List Int} {y z:Nat->Rat} (h:∀ k,k<q->y k=z k):exL q V y=exL q V z:=by
 unfold exL;refine List.map_congr_left fun s _=>?_
 unfold exZ zs;rw [av fun k hk=>by rw [h k hk]]
theorem nuc_all {p:Int} {V:List Int} {X a b:List (Int × Int)} (hp1:p ≠ 1) (hok:(nucR p V).ok=true) (ha:allX p V (nucR p V).pt=some a) (hb:allX p V X=some b) :
 a.map val=b.map val ∨ gK ((srtX a).map val) ((srtX b).map val):=by
 rcases nuc_lex hp1 hok ha hb with hm|hm
 ·refine .inl ?_;have hg:=fs (dQ hb).1;have e:nucR p V=nucF p V ((frN V []).length+1) [] 0:=by unfold nucR;rw [if_pos hg,if_neg hp1]
  rw [fL ha,fL hb];rw [e] at hok hm ⊢;exact mT (hJ hg (iR hok) (eK hok).1 hm)
 ·exact .inr hm
def denB:Nat->Nat->Nat
 | 0,_=>1
 | n+1,B=>B*denB n (2*B*B)
theorem cross_bd {B p a c r:Int} (h0:0<=B) (h1:-B<=p/\p<=B) (h2:-B<=a/\a<=B) (h3:-B<=c/\c<=B) (h4:-B<=r/\r<=B):-(2*B*B)<=p*a-c*r/\p*a-c*r<=2*B*B:=by
 have e:∀ x y:Int,-B<=x/\x<=B->-B<=y/\y<=B->-(B*B)<=x*y/\x*y<=B*B:=fun x y hx hy=>by
  have a1:=Int.mul_nonneg (show 0<=B-x by omega) (show 0<=B+y by omega);have a2:=Int.mul_nonneg (show 0<=B+x by omega) (show 0<=B-y by omega);have a3:=Int.mul_nonneg (show 0<=B-x by omega) (show 0<=B-y by omega);have a4:=Int.mul_nonneg (show 0<=B+x by omega) (show 0<=B+y by omega);constructor <;> grind
 have:=e p a h1 h2;have:=e c r h3 h4
 grind
theorem kX:∀ (n B:Nat) (R:(Nat->Int)->Prop) (y:Nat->Rat),
 (∀ r,R r->∀ i,i<n->-(B:Int)<=r i/\r i<=B) ->
 (∀ r,R r->∃ m:Int,sumN (fun i=>((r i:Int):Rat)*y i) n=(m:Rat)) ->
 (∀ z:Nat->Rat,(∀ r,R r->sumN (fun i=>((r i:Int):Rat)*z i) n=0)->∀ i,i<n->z i=0) ->
 ∃ M:Nat,1<=M/\M<=denB n B/\∀ i,i<n->∃ m:Int,(M:Rat)*y i=(m:Rat)
 | 0,B,R,y,_,_,_=>⟨1,Nat.le_refl _,Nat.le_refl _,fun i hi=>absurd hi (by omega)⟩
 | n+1,B,R,y,hB,hy,hk=>by
   obtain ⟨r,hr,hrn⟩:∃ r,R r/\r n ≠ 0:=by
    refine Classical.byContradiction fun hno=>?_
    have h0:∀ r,R r->r n=0:=fun r hr=>Classical.byContradiction fun h=>hno ⟨r,hr,h⟩
    have:=hk (fun i=>if i=n then 1 else 0) (fun r hr=>eo fun i hi=>by
     by_cases e:i=n
     ·subst e;rw [h0 r hr];simp
     ·rw [if_neg e];grind) n (by omega)
    simp at this
   obtain ⟨p,hp⟩:∃ p,p=r n:=⟨_,rfl⟩;have hpB:=hB r hr n (by omega);rw [<-hp] at hrn hpB;have hpq:(p:Rat) ≠ 0:=ei hrn;obtain ⟨mr,hmr⟩:=hy r hr;simp only [sumN] at hmr;rw [<-hp] at hmr;have lin:∀ (q:Nat->Int) (s:Nat->Int) (x:Nat->Rat),(∀ i,s i=p*q i-q n*r i)->sumN (fun i=>((s i:Int):Rat)*x i) n=(p:Rat)*sumN (fun i=>((q i:Int):Rat)*x i) n+(-(q n:Rat))*sumN (fun i=>((r i:Int):Rat)*x i) n:=by
    intro q s x hs;rw [<-dC,<-dB];refine av fun i hi=>?_
    rw [hs i,Rat.intCast_sub,Rat.intCast_mul,Rat.intCast_mul]
    grind
   obtain ⟨M,hM1,hM2,hMy⟩:=kX n (2*B*B) (fun s=>∃ q,R q/\∀ i,s i=p*q i-q n*r i) y
    (by
      rintro s ⟨q,hq,hs⟩ i hi;rw [hs i];have:=cross_bd (B:=(B:Int)) (by omega) hpB (hB q hq i (by omega)) (hB q hq n (by omega)) (hB r hr i (by omega));have e:((2*B*B:Nat):Int)=2*(B:Int)*B:=by push_cast;rfl
      rw [e];exact this)
    (by
      rintro s ⟨q,hq,hs⟩;obtain ⟨mq,hmq⟩:=hy q hq;simp only [sumN] at hmq;refine ⟨p*mq-q n*mr,?_⟩;rw [lin q s y hs,Rat.intCast_sub,Rat.intCast_mul,Rat.intCast_mul,<-hmq,<-hmr]
      grind)
    (by
      intro z hz
      have hz2:=hk (fun i=>if i=n then-sumN (fun i=>((r i:Int):Rat)*z i) n / (p:Rat) else z i) (fun q hq=>by
       have h1:=hz (fun i=>p*q i-q n*r i) ⟨q,hq,fun _=>rfl⟩;rw [lin q _ z (fun _=>rfl)] at h1;simp only [sumN,if_true];have e:sumN (fun k=>((q k:Int):Rat)*(if k=n then-sumN (fun i=>((r i:Int):Rat)*z i) n / (p:Rat) else z k)) n=sumN (fun i=>((q i:Int):Rat)*z i) n:=av fun i hi=>by rw [if_neg (by omega)]
       rw [e];generalize sumN (fun i=>((q i:Int):Rat)*z i) n=sq at h1 ⊢;generalize sumN (fun i=>((r i:Int):Rat)*z i) n=sr at h1 ⊢
       grind)
      intro i hi;have:=hz2 i (by omega);rw [if_neg (by omega)] at this
      exact this)
   refine ⟨p.natAbs*M,?_,?_,fun i hi=>?_⟩
   ·have:1<=p.natAbs:=by omega
    exact Nat.mul_le_mul this hM1
   ·show p.natAbs*M<=B*denB n (2*B*B);exact Nat.mul_le_mul (by omega) hM2
   ·have habs:((p.natAbs:Int):Rat)=(p:Rat) ∨ ((p.natAbs:Int):Rat)=-(p:Rat):=by
     rcases Int.natAbs_eq p with h|h
     ·left;rw [<-h]
     ·right;rw [<-Rat.intCast_neg];congr 1;omega
    have hcast:((p.natAbs*M:Nat):Rat)=((p.natAbs:Int):Rat)*(M:Rat):=by push_cast;rfl
    rw [hcast];by_cases hin:i=n
    ·subst hin;obtain ⟨t,ht⟩:∃ t:Int,(M:Rat)*sumN (fun j=>((r j:Int):Rat)*y j) i=(t:Rat):=by
      have:∀ k,k<=i->∃ t:Int,(M:Rat)*sumN (fun j=>((r j:Int):Rat)*y j) k=(t:Rat):=by
       intro k
       induction k with
       | zero=>intro _;exact ⟨0,by simp only [sumN];grind⟩
       | succ k ih =>
         intro hk9;obtain ⟨t,ht⟩:=ih (by omega);obtain ⟨m,hm⟩:=hMy k (by omega);refine ⟨t+r k*m,?_⟩;simp only [sumN];rw [Rat.intCast_add,Rat.intCast_mul,<-ht,<-hm]
         grind
      exact this i (Nat.le_refl _)
     rcases habs with h|h
     ·refine ⟨(M:Int)*mr-t,?_⟩;rw [h,Rat.intCast_sub,Rat.intCast_mul,<-ht,<-hmr];have:(((M:Nat):Int):Rat)=(M:Rat):=by push_cast;rfl
      rw [this]
      grind
     ·refine ⟨t-(M:Int)*mr,?_⟩;rw [h,Rat.intCast_sub,Rat.intCast_mul,<-ht,<-hmr];have:(((M:Nat):Int):Rat)=(M:Rat):=by push_cast;rfl
      rw [this]
      grind
    ·obtain ⟨m,hm⟩:=hMy i (by omega);refine ⟨(p.natAbs:Int)*m,?_⟩;rw [Rat.intCast_mul,<-hm]
     grind
theorem zs_add {q:Nat} {y z:Nat->Rat} {s:Int}:zs q (fun i=>y i+z i) s=zs q y s+zs q z s:=by
 unfold zs;have:=dB (fun k=>y k*((bitI (hasP s (k:Int)):Int):Rat)) (fun k=>z k*((bitI (hasP s (k:Int)):Int):Rat)) 1 q;simp only [Rat.one_mul] at this;rw [<-this];exact av fun i hi=>by grind
theorem gV {q:Nat} {V:List Int} {y z:Nat->Rat} {s:Int}:exZ q V (fun i=>y i+z i) s=exZ q V y s-zs q z s:=by unfold exZ;rw [zs_add];grind
theorem x_zero {A:List (List Int)} {B:List Int} {C:List (Int × Int)} {r:LpR} (hc:aD aK A B C r=true) (hs:r.status=1) {j:Nat} (hj:¬ 0<(r.X[j]?.getD (0,0)).1):vrow r.X j=0:=by
 unfold aD at hc;rw [if_pos hs] at hc;obtain ⟨hf,_⟩:=both hc;unfold dj at hf;obtain ⟨_,hf⟩:=both hf;obtain ⟨hpos,_⟩:=both hf;by_cases hl:j<r.X.length
 ·have:=List.all_eq_true.1 hpos (r.X[j]) (List.getElem_mem hl);obtain ⟨a,b⟩:=both this;have b:=of_decide_eq_true b;unfold vrow val;rw [List.getElem?_eq_getElem hl,Option.getD_some] at hj ⊢;have e:(r.X[j]).1=0:=by omega
  rw [e]
  grind
 ·unfold vrow val;rw [List.getElem?_eq_none (by omega),Option.getD_none]
  grind
theorem rh {p:Int} {V:List Int} {L:List (Int × Int × Int)} (h:stOk p V L=true) (hs:(an p.toNat V L).status=1) {y z:Nat->Rat} (hy:ep p.toNat V L y)
 (h0:zs p.toNat z ((V.length:Int)-1)=0) (hL:∀ a ∈ L,zs p.toNat z a.1=0)
 (hd:∀ a ∈ newF (frN V L) (an p.toNat V L) (frN V L).length,∀ b ∈ newF (frN V L) (an p.toNat V L) (frN V L).length,zs p.toNat z a.1=zs p.toNat z b.1) :
 ∀ a ∈ newF (frN V L) (an p.toNat V L) (frN V L).length,zs p.toNat z a.1=0:=by
 intro a ha;obtain ⟨v1,_,v3,_⟩:=dq hs;obtain ⟨k1,k2,k3⟩:=fz h hs hy;obtain ⟨m1,m2,m3⟩:=fz h hs (z:=fun i=>y i+z i) ⟨by rw [gV,hy.grand,h0];grind,fun f hf=>by rw [gV,hy.fixed f hf,hL f hf];grind⟩;have e:sumN (fun j=>vrow (an p.toNat V L).X j*exZ p.toNat V (fun i=>y i+z i) ((frN V L)[j]?.getD 0)) (frN V L).length=sumN (fun j=>vrow (an p.toNat V L).X j*exZ p.toNat V y ((frN V L)[j]?.getD 0)) (frN V L).length+(-zs p.toNat z a.1)*sumN (fun j=>vrow (an p.toNat V L).X j) (frN V L).length:=by
  rw [<-dB];refine av fun j hj=>?_
  by_cases hx:0<((an p.toNat V L).X[j]?.getD (0,0)).1
  ·have hm:((frN V L)[j]?.getD 0,-(an p.toNat V L).value.1,(an p.toNat V L).value.2) ∈ newF (frN V L) (an p.toNat V L) (frN V L).length:=by
    unfold newF;exact List.mem_map.2 ⟨j,List.mem_filter.2 ⟨List.mem_range.2 hj,decide_eq_true hx⟩,rfl⟩
   have:=hd _ hm a ha;simp only at this;rw [gV,this]
   grind
  ·have hz:vrow (an p.toNat V L).X j=0:=x_zero v3 hs hx;rw [hz];grind
 rw [m1,k1,k2] at e
 grind
theorem oG {p:Int} {V:List Int} {y z:Nat->Rat}:∀ {f k:Nat} {L:List (Int × Int × Int)},(nucF p V f L k).ok=true->ep p.toNat V (nucF p V f L k).st y->zs p.toNat z ((V.length:Int)-1)=0 ->
 (∀ a ∈ (nucF p V f L k).st,∀ b ∈ (nucF p V f L k).st,a.2=b.2->zs p.toNat z a.1=zs p.toNat z b.1)->(∀ a ∈ L,zs p.toNat z a.1=0)->∀ a ∈ (nucF p V f L k).st,zs p.toNat z a.1=0
 | 0,k,L,h=>by cases h
 | f+1,k,L,h=>by
   intro hy h0 hd hL;by_cases hok:stOk p V L=true/\(an p.toNat V L).status=1
   ·have hsub:∀ g ∈ bD V L (an p.toNat V L),g ∈ (nucF p V (f+1) L k).st:=by
     by_cases hdn:cO p V (bD V L (an p.toNat V L))=true
     ·rw [nucF,if_pos hok,if_pos hdn];exact fun g hg=>hg
     ·have e:nucF p V (f+1) L k=nucF p V f (bD V L (an p.toNat V L)) (k+1):=by rw [nucF,if_pos hok,if_neg hdn]
      rw [e] at h ⊢;exact (eK h).2.1
    have hnew:=rh hok.1 hok.2 ⟨hy.grand,fun g hg=>hy.fixed g (hsub g (List.mem_append.2 (.inl hg)))⟩ h0 hL (fun a ha b hb=>by
     refine hd a (hsub a (List.mem_append.2 (.inr ha))) b (hsub b (List.mem_append.2 (.inr hb))) ?_;unfold newF at ha hb;obtain ⟨_,_,rfl⟩:=List.mem_map.1 ha;obtain ⟨_,_,rfl⟩:=List.mem_map.1 hb
     rfl)
    have hnext:∀ a ∈ bD V L (an p.toNat V L),zs p.toNat z a.1=0:=fun a ha=>by
     rcases List.mem_append.1 ha with h1|h1
     ·exact hL a h1
     ·exact hnew a h1
    by_cases hdn:cO p V (bD V L (an p.toNat V L))=true
    ·rw [nucF,if_pos hok,if_pos hdn];exact hnext
    ·have e:nucF p V (f+1) L k=nucF p V f (bD V L (an p.toNat V L)) (k+1):=by rw [nucF,if_pos hok,if_neg hdn]
     rw [e] at h hy hd ⊢;exact oG h hy h0 hd hnext
   ·rw [nucF,if_neg hok] at h;cases h
theorem nuc_pt {p:Int} {V:List Int}:∀ {f k:Nat} {L:List (Int × Int × Int)},(nucF p V f L k).ok=true->∃ L',stOk p V L'=true/\(an p.toNat V L').status=1/\(nucF p V f L k).pt=ptN p.toNat (an p.toNat V L')
 | 0,k,L,h=>by cases h
 | f+1,k,L,h=>by
   by_cases hok:stOk p V L=true/\(an p.toNat V L).status=1
   ·by_cases hdn:cO p V (bD V L (an p.toNat V L))=true
    ·exact ⟨L,hok.1,hok.2,by rw [nucF,if_pos hok,if_pos hdn]⟩
    ·have e:nucF p V (f+1) L k=nucF p V f (bD V L (an p.toNat V L)) (k+1):=by rw [nucF,if_pos hok,if_neg hdn]
     rw [e] at h ⊢;exact nuc_pt h
   ·rw [nucF,if_neg hok] at h;cases h
theorem nuc_ptv {p:Int} {V:List Int} {f k:Nat} {L:List (Int × Int × Int)} (h:(nucF p V f L k).ok=true):(nucF p V f L k).pt.length=p.toNat/\∀ x ∈ (nucF p V f L k).pt,valR x=true:=by
 obtain ⟨L',h1,h2,h3⟩:=nuc_pt h;obtain ⟨_,s2,_,s4⟩:=ju h1 h2;rw [h3];unfold ptN;refine ⟨by simp [s2],fun x hx=>?_⟩;obtain ⟨y,hy,rfl⟩:=List.mem_map.1 hx;rw [cn];obtain ⟨i,hi,rfl⟩:=List.mem_iff_getElem.1 (List.mem_of_mem_take hy);have:=s4 i hi;rw [List.getElem?_eq_getElem hi,Option.getD_some] at this;exact this
theorem ma (b:Bool):0<=bitI b/\bitI b<=1:=by cases b <;> decide
theorem nuc_den {p:Int} {V:List Int} {f k:Nat} (hg:aN p V=true) (h:(nucF p V f [] k).ok=true) :
 ∃ M:Nat,1<=M/\M<=denB p.toNat 1/\∀ i,i<p.toNat->∃ m:Int,(M:Rat)*val ((nucF p V f [] k).pt[i]?.getD (0,0))=(m:Rat):=by
 obtain ⟨hm,_⟩:=eK h;obtain ⟨y,hy⟩:∃ y:Nat->Rat,y=fun i=>val ((nucF p V f [] k).pt[i]?.getD (0,0)):=⟨_,rfl⟩
 rw [<-hy] at hm;have hzs:∀ (s:Int) (x:Nat->Rat),sumN (fun i=>((bitI (hasP s (i:Int)):Int):Rat)*x i) p.toNat=zs p.toNat x s:=fun s x=>av fun i hi=>by grind
 have hdf:∀ (s t:Int) (x:Nat->Rat),sumN (fun i=>((bitI (hasP s (i:Int))-bitI (hasP t (i:Int)):Int):Rat)*x i) p.toNat=zs p.toNat x s-zs p.toNat x t:=fun s t x=>by
  have e:=dB (fun i=>((bitI (hasP s (i:Int)):Int):Rat)*x i) (fun i=>((bitI (hasP t (i:Int)):Int):Rat)*x i) (-1) p.toNat;rw [hzs,hzs] at e;rw [show zs p.toNat x s-zs p.toNat x t=zs p.toNat x s+(-1)*zs p.toNat x t by grind,<-e];exact av fun i hi=>by rw [Rat.intCast_sub];grind
 have hzv:∀ s,zs p.toNat y s=((V[s.toNat]?.getD 0:Int):Rat)-exZ p.toNat V y s:=fun s=>by unfold exZ;grind
 have:=kX p.toNat 1 (fun r=>(r=fun (i:Nat)=>bitI (hasP ((V.length:Int)-1) (i:Int))) ∨ ∃ a ∈ (nucF p V f [] k).st,∃ b ∈ (nucF p V f [] k).st,a.2=b.2/\r=fun (i:Nat)=>bitI (hasP a.1 (i:Int))-bitI (hasP b.1 (i:Int))) y
  (by
    rintro r (rfl|⟨a,_,b,_,_,rfl⟩) i hi
    ·have:=ma (hasP ((V.length:Int)-1) (i:Int));simp only;omega
    ·have:=ma (hasP a.1 (i:Int));have:=ma (hasP b.1 (i:Int));simp only;omega)
  (by
    rintro r (rfl|⟨a,ha,b,hb,he,rfl⟩)
    ·rw [hzs,hzv,hm.grand];exact ⟨V[((V.length:Int)-1).toNat]?.getD 0,by grind⟩
    ·rw [hdf,hzv,hzv,hm.fixed a ha,hm.fixed b hb,he]
     exact ⟨V[a.1.toNat]?.getD 0-V[b.1.toNat]?.getD 0,by rw [Rat.intCast_sub];grind⟩)
  (by
    intro z hz;have h0:zs p.toNat z ((V.length:Int)-1)=0:=by rw [<-hzs];exact hz _ (.inl rfl)
    have hd:∀ a ∈ (nucF p V f [] k).st,∀ b ∈ (nucF p V f [] k).st,a.2=b.2->zs p.toNat z a.1=zs p.toNat z b.1:=fun a ha b hb he=>by
     have:=hz _ (.inr ⟨a,ha,b,hb,he,rfl⟩);rw [hdf] at this
     grind
    have hk:=oG h hm h0 hd (fun a ha=>by cases ha);have hu:=hJ hg (iR h) (y:=fun i=>y i+z i) (z:=y) ⟨by rw [gV,hm.grand,h0];grind,fun a ha=>by rw [gV,hm.fixed a ha,hk a ha];grind⟩ hm;intro i hi;have:=hu i hi
    grind)
 rw [hy] at this;exact this
end Go.Proofs.YthjjfkeacobikaaGreat
