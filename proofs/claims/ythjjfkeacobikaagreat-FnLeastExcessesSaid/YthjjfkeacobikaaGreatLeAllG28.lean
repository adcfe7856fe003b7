import Derived.Test.YthjjfkeacobikaaGreatLeAllG27
import Derived.Test.YthjjfkeacobikaaGreatLeAllG14
import Derived.Test.YthjjfkeacobikaaGreatLeAllG5
import Derived.Test.YthjjfkeacobikaaGreatLeAllG24
set_option linter.unusedVariables false
set_option linter.unusedSimpArgs false
namespace Go.Proofs.YthjjfkeacobikaaGreat
def exL (q:Nat) (V:List Int) (z:Nat->Rat):List Rat:=(seqI 1 (V.length-2)).map (exZ q V z)
def More (a b:List Rat):Prop:=∃ t,(∀ u,t<u->eG u a<=eG u b)/\eO t a<eO t b
theorem ot {L:List (Int × Int × Int)} {s:Int} (h:hasX L s=true):∃ f ∈ L,f.1=s:=by
 unfold hasX at h;obtain ⟨f,hf,he⟩:=List.any_eq_true.1 h;exact ⟨f,hf,by simpa using he⟩
theorem more_of {q:Nat} {V:List Int} {L:List (Int × Int × Int)} {y z:Nat->Rat} {t:Rat} (hs:∀ s,hasX L s=true->exZ q V y s=exZ q V z s) (hy:∀ s ∈ frN V L,exZ q V y s<=t) (hz:∃ s ∈ frN V L,t<exZ q V z s):More (exL q V y) (exL q V z):=by
 have split:∀ (g:Rat->Bool) (w:Nat->Rat),(exL q V w).countP g=(((seqI 1 (V.length-2)).filter (hasX L)).countP fun s=>g (exZ q V w s))+((frN V L).countP fun s=>g (exZ q V w s)):=fun g w=>by
  unfold exL frN aM;rw [List.countP_map];exact List.countP_eq_countP_filter_add _ _ _
 have same:∀ g:Rat->Bool,(((seqI 1 (V.length-2)).filter (hasX L)).countP fun s=>g (exZ q V y s))=(((seqI 1 (V.length-2)).filter (hasX L)).countP fun s=>g (exZ q V z s)):=fun g=>by
  refine List.countP_congr fun s hm=>?_
  rw [hs s (List.mem_filter.1 hm).2]
 refine ⟨t,fun u hu=>?_,?_⟩
 ·unfold eG;rw [split,split];have e:=same fun x=>decide (u<=x)
  rw [e];have h0:((frN V L).countP fun s=>decide (u<=exZ q V y s))=0:=by
   rw [List.countP_eq_zero];intro s hm;have:=hy s hm;simp only [decide_eq_true_eq]
   grind
  rw [h0];omega
 ·unfold eO;rw [split,split];have e:=same fun x=>decide (t<x)
  rw [e];have h0:((frN V L).countP fun s=>decide (t<exZ q V y s))=0:=by
   rw [List.countP_eq_zero];intro s hm;have:=hy s hm;simp only [decide_eq_true_eq]
   grind
  have h1:0<((frN V L).countP fun s=>decide (t<exZ q V z s)):=by
   rw [List.countP_pos_iff];obtain ⟨s,hm,hs⟩:=hz;exact ⟨s,hm,decide_eq_true hs⟩
  rw [h0];omega
theorem lV {p:Int} {V:List Int} {L:List (Int × Int × Int)} (h:stOk p V L=true) (hs:(an p.toNat V L).status=1) {y z:Nat->Rat} (hy:ep p.toNat V L y) (hyf:∀ s ∈ frN V L,exZ p.toNat V y s<=- val (an p.toNat V L).value) (hz:ep p.toNat V L z) :
 ep p.toNat V (bD V L (an p.toNat V L)) z ∨ More (exL p.toNat V y) (exL p.toNat V z):=by
 obtain ⟨v1,_,v3,_⟩:=dq hs;by_cases hall:∀ j,j<(frN V L).length->0<((an p.toNat V L).X[j]?.getD (0,0)).1->exZ p.toNat V z ((frN V L)[j]?.getD 0)=- val (an p.toNat V L).value
 ·refine .inl ⟨hz.grand,fun f hf=>?_⟩;unfold bD at hf
  rcases List.mem_append.1 hf with hf|hf
  ·exact hz.fixed f hf
  ·unfold newF at hf;obtain ⟨j,hj,rfl⟩:=List.mem_map.1 hf;obtain ⟨hjl,hjx⟩:=List.mem_filter.1 hj;have:=hall j (List.mem_range.1 hjl) (of_decide_eq_true hjx)
   show exZ p.toNat V z ((frN V L)[j]?.getD 0)=val (negR (an p.toNat V L).value);rw [cL];exact this
 ·refine .inr ?_;obtain ⟨j,hj⟩:=Classical.not_forall.1 hall;obtain ⟨hjl,hj⟩:=Classical.not_imp.1 hj;obtain ⟨hjx,hne⟩:=Classical.not_imp.1 hj;obtain ⟨k1,k2,k3⟩:=fz h hs hz;obtain ⟨i,hi,_,hlt⟩:=mZ k2 k3 k1 hjl (x_pos v3 hs hjx) hne;refine more_of (L:=L) (fun s hsx=>?_) hyf ⟨(frN V L)[i]?.getD 0,by rw [List.getElem?_eq_getElem hi,Option.getD_some];exact List.getElem_mem hi,hlt⟩;obtain ⟨f,hf,rfl⟩:=ot hsx;rw [hy.fixed f hf,hz.fixed f hf]
theorem oq (L T:List (Int × Int × Int)) (s:Int):hasX (L++T) s=(hasX L s||hasX T s):=by unfold hasX;rw [List.any_append]
theorem sE {V:List Int} {L T:List (Int × Int × Int)} {s:Int} (h:s ∈ frN V L):s ∈ frN V (L++T) ∨ ∃ f ∈ T,f.1=s:=by
 unfold frN aM at h ⊢;obtain ⟨h1,h2⟩:=List.mem_filter.1 h;cases ht:hasX T s with
 | true=>exact .inr (ot ht)
 | false =>
   refine .inl (List.mem_filter.2 ⟨h1,?_⟩);rw [oq,ht,Bool.or_false];exact h2
theorem tg {V:List Int} {L T:List (Int × Int × Int)} {s:Int} (h:s ∈ frN V (L++T)):s ∈ frN V L:=by
 unfold frN aM at h ⊢;obtain ⟨h1,h2⟩:=List.mem_filter.1 h;refine List.mem_filter.2 ⟨h1,?_⟩;rw [oq] at h2;cases hl:hasX L s with
 | true=>rw [hl] at h2;cases h2
 | false=>rfl
theorem eK {p:Int} {V:List Int}:∀ {f k:Nat} {L:List (Int × Int × Int)},(nucF p V f L k).ok=true ->
 ep p.toNat V (nucF p V f L k).st (fun i=>val ((nucF p V f L k).pt[i]?.getD (0,0)))/\(∀ g ∈ L,g ∈ (nucF p V f L k).st) /\
 (∀ s ∈ frN V L,exZ p.toNat V (fun i=>val ((nucF p V f L k).pt[i]?.getD (0,0))) s<=- val (an p.toNat V L).value) /\
 ∀ z,ep p.toNat V L z->ep p.toNat V (nucF p V f L k).st z ∨ More (exL p.toNat V (fun i=>val ((nucF p V f L k).pt[i]?.getD (0,0)))) (exL p.toNat V z)
 | 0,k,L,h=>by cases h
 | f+1,k,L,h=>by
   by_cases hok:stOk p V L=true/\(an p.toNat V L).status=1
   ·obtain ⟨p1,p2⟩:=stage_pt hok.1 hok.2;by_cases hd:cO p V (bD V L (an p.toNat V L))=true
    ·have e:nucF p V (f+1) L k=⟨true,ptN p.toNat (an p.toNat V L),bD V L (an p.toNat V L),k+1⟩:=by rw [nucF,if_pos hok,if_pos hd]
     rw [e];have hpt:∀ s,exZ p.toNat V (fun i=>val ((ptN p.toNat (an p.toNat V L))[i]?.getD (0,0))) s=exZ p.toNat V (fun i=>- vrow (an p.toNat V L).Y i) s:=fun s=>by
      unfold exZ zs
      congr 1
      refine av fun i hi=>?_
      obtain ⟨_,_,_,v4,_⟩:=dq hok.2;have hyl:i<(an p.toNat V L).Y.length:=by
       have:(an p.toNat V L).Y.length=(stB p.toNat).length:=v4;rw [this];unfold stB;simp;omega
      have e9:(ptN p.toNat (an p.toNat V L))[i]?.getD (0,0)=negR ((an p.toNat V L).Y[i]?.getD (0,0)):=by
       unfold ptN;rw [List.getElem?_map,List.getElem?_take,if_pos hi,List.getElem?_eq_getElem hyl]
       rfl
      show val ((ptN p.toNat (an p.toNat V L))[i]?.getD (0,0))*_=- vrow (an p.toNat V L).Y i*_;rw [e9,cL]
      rfl
     refine ⟨⟨by show exZ _ _ _ _=0;rw [hpt];exact p1.grand,fun g hg=>by show exZ _ _ _ _=_;rw [hpt];exact p1.fixed g hg⟩,fun g hg=>List.mem_append.2 (.inl hg),fun s hs=>by rw [hpt];exact p2 s hs,fun z hz=>?_⟩;refine lV hok.1 hok.2 ⟨by rw [hpt];exact p1.grand,fun g hg=>by rw [hpt];exact p1.fixed g (List.mem_append.2 (.inl hg))⟩ (fun s hs=>by rw [hpt];exact p2 s hs) hz
    ·have e:nucF p V (f+1) L k=nucF p V f (bD V L (an p.toNat V L)) (k+1):=by rw [nucF,if_pos hok,if_neg hd]
     rw [e] at h ⊢;obtain ⟨i1,i2,i3,i4⟩:=eK h;have hok2:stOk p V (bD V L (an p.toNat V L))=true/\(an p.toNat V (bD V L (an p.toNat V L))).status=1:=by
      false_or_by_contra
      rename_i hno
      cases f with
      | zero=>cases h
      | succ f =>
        rw [nucF,if_neg hno] at h;cases h
     have heps:- val (an p.toNat V (bD V L (an p.toNat V L))).value<=- val (an p.toNat V L).value:=by
      obtain ⟨k1,k2,k3⟩:=fz hok2.1 hok2.2 p1;rw [<-k1];refine jM k2 k3 fun j hj=>p2 _ ?_
      refine tg (T:=newF (frN V L) (an p.toNat V L) (frN V L).length) ?_
      show (frN V (bD V L (an p.toNat V L)))[j]?.getD 0 ∈ frN V (bD V L (an p.toNat V L));rw [List.getElem?_eq_getElem hj,Option.getD_some];exact List.getElem_mem hj
     have hyf:∀ s ∈ frN V L,exZ p.toNat V (fun i=>val ((nucF p V f (bD V L (an p.toNat V L)) (k+1)).pt[i]?.getD (0,0))) s<=- val (an p.toNat V L).value:=fun s hs=>by
      rcases sE (T:=newF (frN V L) (an p.toNat V L) (frN V L).length) hs with hs2|⟨g,hg,rfl⟩
      ·exact Rat.le_trans (i3 s hs2) heps
      ·have hfx:=i1.fixed g (i2 g (List.mem_append.2 (.inr hg)));rw [hfx];unfold newF at hg;obtain ⟨j,_,rfl⟩:=List.mem_map.1 hg
       show val (negR (an p.toNat V L).value)<=_;rw [cL];exact Rat.le_refl
     refine ⟨i1,fun g hg=>i2 g (List.mem_append.2 (.inl hg)),hyf,fun z hz=>?_⟩
     rcases lV hok.1 hok.2 ⟨i1.grand,fun g hg=>i1.fixed g (i2 g (List.mem_append.2 (.inl hg)))⟩ hyf hz with hm|hm
     ·exact i4 z hm
     ·exact .inr hm
   ·have e:nucF p V (f+1) L k=NucR.no:=by rw [nucF,if_neg hok]
    rw [e] at h;cases h
theorem more_lex {a b:List (Int × Int)} (ha:∀ y ∈ a,valR y=true) (hb:∀ y ∈ b,valR y=true) (hl:a.length=b.length) (h:More (a.map val) (b.map val)):gK ((srtX a).map val) ((srtX b).map val):=by
 obtain ⟨t,h1,h2⟩:=h;have hp:∀ l:List (Int × Int),((srtX l).map val).Perm (l.map val):=fun l=>(eM l).map val
 have hs:∀ l:List (Int × Int),(∀ y ∈ l,valR y=true)->((srtX l).map val).Pairwise (fun x y=>y<=x):=fun l hv=>by
  rw [List.pairwise_map];have hsv:∀ y ∈ srtX l,valR y=true:=fun y hy=>hv y ((eM l).mem_iff.1 hy)
  refine List.Pairwise.imp_of_mem ?_ (is hv l.length (Nat.le_refl _));intro x y hx hy hg;exact (fO (hsv x hx) (hsv y hy)).1 hg
 refine jh (t:=t) (hs a ha) (hs b hb) ?_ (fun u hu=>?_) ?_
 ·rw [List.length_map,List.length_map,(eM a).length_eq,(eM b).length_eq,hl]
 ·have:=h1 u hu;unfold eG at this ⊢;rw [(hp a).countP_eq,(hp b).countP_eq];exact this
 ·unfold eO at h2 ⊢;rw [(hp a).countP_eq,(hp b).countP_eq];exact h2
theorem qv {X:List (Int × Int)} {s:Nat}:∀ {j:Nat} {r:Int × Int},payT X (memI (s:Int) j) (0,1)=some r->val r=sumN (fun k=>val (X[k]?.getD (0,0))*((bitI (bit (s:Int) k):Int):Rat)) j/\valR r=true
 | 0,r,h=>by
   have e:r=(0,1):=by
    have:memI (s:Int) 0=[]:=rfl;rw [this] at h;exact (Option.some.inj h).symm
   subst e;exact ⟨bv 0,by decide⟩
 | j+1,r,h=>by
   rw [ip,eZ] at h;cases h0:payT X (memI (s:Int) j) (0,1) with
   | none=>rw [h0] at h;cases h
   | some a =>
     obtain ⟨i1,i2⟩:=qv h0;rw [h0] at h;change payT X _ a=some r at h;simp only [sumN];cases hb:bit (s:Int) j with
     | false =>
       rw [hb,if_neg (by simp)] at h;have e:a=r:=Option.some.inj h;subst e;refine ⟨?_,i2⟩;rw [i1];have e0:((bitI false:Int):Rat)=0:=rfl;rw [e0]
       grind
     | true =>
       rw [hb,if_pos rfl] at h;simp only [payT] at h
       split at h
       ·cases h
       ·split at h
        ·next hf =>
         have e:=Option.some.inj h;rw [Int.toNat_natCast] at hf e;obtain ⟨a1,a2,a3,a4⟩:=jQ hf;rw [<-e];refine ⟨?_,a3⟩;rw [a4,i1];have e0:((bitI true:Int):Rat)=1:=rfl;rw [e0]
         grind
        ·cases h
theorem mX:∀ n:Fin 6,∀ s:Fin 32,∀ k:Fin 5,s.val<cN n.val->n.val<=k.val->bit ((s.val:Nat):Int) k.val=false:=by decide +kernel
theorem ja {X:List (Int × Int)} {q s:Nat} (hq:q<=5) (hs:s<cN q) {r:Int × Int} (h:cM X s=some r):val r=zs q (fun i=>val (X[i]?.getD (0,0))) (s:Int)/\valR r=true:=by
 have hc:cN q<=32:=by
  have:∀ n:Fin 6,cN n.val<=32:=by decide
  exact this ⟨q,by omega⟩
 obtain ⟨h1,h2⟩:=qv h;refine ⟨?_,h2⟩;rw [h1];obtain ⟨d,hd⟩:∃ d,5=q+d:=⟨5-q,by omega⟩
 rw [hd,fJ d (fun k k1 k2=>by
  have:=mX ⟨q,by omega⟩ ⟨s,by omega⟩ ⟨k,by omega⟩ hs k1;have this:bit (s:Int) k=false:=this;rw [this]
  show _*((0:Int):Rat)=0;have e0:((0:Int):Rat)=0:=rfl
  rw [e0];grind)]
 unfold zs;exact av fun k hk=>by rw [iI _ _ (by omega) (by omega)]
theorem fL {p:Int} {V:List Int} {X:List (Int × Int)} {l:List (Int × Int)} (h:allX p V X=some l):l.map val=exL p.toNat V (fun i=>val (X[i]?.getD (0,0))):=by
 obtain ⟨hp,hl⟩:=dQ h;obtain ⟨hg,hXl,_,_⟩:=lE hp;obtain ⟨q,hpq,hq1,hq5,hV,_⟩:=bd hg;rw [jH hp] at h;unfold excL at h;have hpt:p.toNat=q:=by omega
 refine List.ext_getElem ?_ fun i h1 h2=>?_
 ·unfold exL seqI;simp [hl]
 ·rw [List.length_map] at h1;have ha:=gS h i (by omega);rw [List.getElem?_eq_getElem h1,Option.getD_some] at ha;unfold excS at ha;cases hs:cM X (1+i) with
  | none=>rw [hs] at ha;cases ha
  | some r =>
    rw [hs] at ha;change excR _ r=some l[i] at ha;obtain ⟨r1,r2⟩:=ja hq5 (show 1+i<cN q by omega) hs;unfold excR at ha
    split at ha
    ·next hf =>
     have e:=Option.some.inj ha;obtain ⟨a1,a2,a3,a4⟩:=fA hf;rw [List.getElem_map,<-e,a4,bv,r1];have e4:(exL p.toNat V (fun i=>val (X[i]?.getD (0,0))))[i]=exZ p.toNat V (fun i=>val (X[i]?.getD (0,0))) (1+(i:Int)):=by
      simp [exL,seqI]
     rw [e4];unfold exZ;rw [hpt];have e2:((1:Int)+(i:Int)).toNat=1+i:=by omega
     have e3:((1+i:Nat):Int)=1+(i:Int):=by omega
     rw [e2,e3]
    ·cases ha
theorem nj {p:Int} {V:List Int} {X:List (Int × Int)} (hp:payP p V X=true):ep p.toNat V [] (fun i=>val (X[i]?.getD (0,0))):=by
 obtain ⟨hg,hXl,_,hsh⟩:=lE hp;obtain ⟨q,hpq,hq1,hq5,hV,_⟩:=bd hg;have hcn:=cX q hq5;have hpt:p.toNat=q:=by omega
 refine ⟨?_,fun f hf=>by cases hf⟩;obtain ⟨r1,_⟩:=ja hq5 (show V.length-1<cN q by omega) hsh;unfold exZ;have e2:((V.length:Int)-1).toNat=V.length-1:=by omega
 have e3:(V.length:Int)-1=((V.length-1:Nat):Int):=by omega
 rw [e2,e3,hpt,<-r1,dZ hg,bv]
 grind
theorem nuc_lex {p:Int} {V:List Int} {X a b:List (Int × Int)} (hp1:p ≠ 1) (hok:(nucR p V).ok=true) (ha:allX p V (nucR p V).pt=some a) (hb:allX p V X=some b) :
 ep p.toNat V (nucR p V).st (fun i=>val (X[i]?.getD (0,0))) ∨ gK ((srtX a).map val) ((srtX b).map val):=by
 have hpb:=(dQ hb).1;have hg:=fs hpb;have e:nucR p V=nucF p V ((frN V []).length+1) [] 0:=by unfold nucR;rw [if_pos hg,if_neg hp1]
 rw [e] at hok ha ⊢;obtain ⟨_,_,_,h4⟩:=eK hok
 rcases h4 _ (nj hpb) with hm|hm
 ·exact .inl hm
 ·refine .inr ?_;rw [<-fL ha,<-fL hb] at hm;exact more_lex (fM ha) (fM hb) (by rw [(dQ ha).2,(dQ hb).2]) hm
def rowZ (n:Nat) (z:Nat->Rat) (r:List Int):Rat:=sumN (fun j=>((r[j]?.getD 0:Int):Rat)*z j) n
theorem rowZ_mix {n c:Nat} {z:Nat->Rat} {p r:List Int} (hr:r.length=n) (h1:rowZ n z p=0) (h2:rowZ n z r=0):rowZ n z (mixR c p r)=0:=by
 have e:rowZ n z (mixR c p r)=((p[c]?.getD 0:Int):Rat)*rowZ n z r+(-((r[c]?.getD 0:Int):Rat))*rowZ n z p:=by
  unfold rowZ;rw [<-dC,<-dB];refine av fun j hj=>?_
  rw [fq (by omega),Rat.intCast_sub,Rat.intCast_mul,Rat.intCast_mul]
  grind
 rw [e,h1,h2]
 grind
theorem lW {n:Nat} {z:Nat->Rat} {M:List (List Int)} (hz:∀ i,i<n->rowZ n z (M[i]?.getD [])=0) (hd:∀ i,i<n->(M[i]?.getD [])[i]?.getD 0 ≠ 0) (h0:∀ i j,i<n->j<i->(M[i]?.getD [])[j]?.getD 0=0):∀ d,d<=n->∀ k,n-d<=k->k<n->z k=0
 | 0,_,k,h1,h2=>by omega
 | d+1,hdn,k,h1,h2=>by
   have ih:=lW hz hd h0 d (by omega);by_cases hk:n-d<=k
   ·exact ih k hk h2
   ·have e:=hz k h2;unfold rowZ at e
    rw [fk h2 (fun j hj hne=>by
     by_cases hjk:j<k
     ·rw [h0 k j h2 hjk];have e0:((0:Int):Rat)=0:=rfl;rw [e0];grind
     ·rw [ih j (by omega) hj];grind)] at e
    have hne:(((M[k]?.getD [])[k]?.getD 0:Int):Rat) ≠ 0:=by
     intro h;exact hd k h2 (by exact_mod_cast h)
    rcases Rat.mul_eq_zero.1 e with h|h
    ·exact absurd h hne
    ·exact h
structure Steps (n:Nat) (z:Nat->Rat) (m c:Nat) (T:List (List Int)):Prop where
 len:T.length=m
 cm:c<=m
 wid:∀ i,i<m->(T[i]?.getD []).length=n
 ann:∀ i,i<m->rowZ n z (T[i]?.getD [])=0
 dia:∀ i,i<c->(T[i]?.getD [])[i]?.getD 0 ≠ 0
 low:∀ i j,i<m->j<i->j<c->(T[i]?.getD [])[j]?.getD 0=0
theorem rJ {n:Nat} {z:Nat->Rat} {m c:Nat} {T:List (List Int)} (h:Steps n z m c T) (hc:c<n) (hp:pivM T c c<T.length):Steps n z m (c+1) (redM mixR c (swp T c (pivM T c c)) c T.length):=by
 obtain ⟨p1,p2,_⟩:=dM hp;obtain ⟨q,hq⟩:∃ q,q=pivM T c c:=⟨_,rfl⟩;rw [<-hq] at hp p1 p2 ⊢;have hl:=h.len;have hcm:c<m:=by omega
 have hS:∀ i,(swp T c q)[i]?.getD []=if i=q then T[c]?.getD [] else if i=c then T[q]?.getD [] else T[i]?.getD []:=fun i=>gn (by omega) (by omega) i
 have hSw:∀ i,i<m->((swp T c q)[i]?.getD []).length=n:=fun i hi=>by
  rw [hS];split
  ·exact h.wid c hcm
  ·split
   ·exact h.wid q (by omega)
   ·exact h.wid i hi
 have hSa:∀ i,i<m->rowZ n z ((swp T c q)[i]?.getD [])=0:=fun i hi=>by
  rw [hS];split
  ·exact h.ann c hcm
  ·split
   ·exact h.ann q (by omega)
   ·exact h.ann i hi
 have hSl:∀ i j,i<m->j<i->j<c->((swp T c q)[i]?.getD [])[j]?.getD 0=0:=fun i j hi hji hjc=>by
  rw [hS];split
  ·exact h.low c j hcm hjc hjc
  ·split
   ·exact h.low q j (by omega) (by omega) hjc
   ·exact h.low i j hi hji hjc
 have hSc:((swp T c q)[c]?.getD [])[c]?.getD 0 ≠ 0:=by
  rw [hS];by_cases e:c=q
  ·rw [if_pos e];rw [<-e] at p2;exact p2
  ·rw [if_neg e,if_pos rfl];exact p2
 have hR:∀ i,i<m->(redM mixR c (swp T c q) c T.length)[i]?.getD []=if c<i/\i<T.length then mixR c ((swp T c q)[c]?.getD []) ((swp T c q)[i]?.getD []) else (swp T c q)[i]?.getD []:=fun i hi=>ft mixR c _ c T.length (by rw [cu];omega)
 refine ⟨by rw [de,cu,hl],by omega,fun i hi=>?_,fun i hi=>?_,fun i hi=>?_,fun i j hi hji hjc=>?_⟩
 ·rw [hR i hi];split
  ·rw [dS];exact hSw i hi
  ·exact hSw i hi
 ·rw [hR i hi];split
  ·exact rowZ_mix (hSw i hi) (hSa c hcm) (hSa i hi)
  ·exact hSa i hi
 ·rw [hR i (by omega),if_neg (by omega)];by_cases e:i=c
  ·subst e;exact hSc
  ·rw [hS,if_neg (by omega),if_neg e];exact h.dia i (by omega)
 ·rw [hR i hi]
  split
  ·rw [fq (by rw [hSw i hi];omega)];by_cases e:j=c
   ·subst e;rw [Int.mul_comm];omega
   ·rw [hSl i j hi hji (by omega),hSl c j hcm (by omega) (by omega)];simp
  ·have:i<=c:=by omega
   exact hSl i j hi hji (by omega)
theorem run_le (M:List (List Int)):∀ n,(runM mixR M n).2<=n
 | 0=>Nat.le_refl _
 | n+1=>by
   have ih:=run_le M n;unfold runM colM
   split
   ·show (runM mixR M n).2+1<=n+1;omega
   ·omega
theorem nD {n:Nat} {z:Nat->Rat} {M:List (List Int)} (hw:∀ i,i<M.length->(M[i]?.getD []).length=n) (hz:∀ i,i<M.length->rowZ n z (M[i]?.getD [])=0):∀ c,c<=n->(runM mixR M c).2=c->Steps n z M.length c (runM mixR M c).1
 | 0,_,_=>⟨rfl,Nat.zero_le _,hw,hz,fun i hi=>by omega,fun i j _ _ hj=>by omega⟩
 | c+1,hc,he=>by
   have hle:=run_le M c;unfold runM colM at he ⊢
   split at he
   ·next hp =>
    have e:(runM mixR M c).2=c:=by
     have:(runM mixR M c).2+1=c+1:=he;omega
    have ih:=nD hw hz c (by omega) e;rw [if_pos hp];rw [e] at hp ⊢;exact rJ ih (by omega) hp
   ·omega
theorem sF {n:Nat} {z:Nat->Rat} {M:List (List Int)} (hw:∀ i,i<M.length->(M[i]?.getD []).length=n) (hz:∀ i,i<M.length->rowZ n z (M[i]?.getD [])=0) (hr:(runM mixR M n).2=n):∀ k,k<n->z k=0:=by
 have h:=nD hw hz n (Nat.le_refl _) hr;have hcm:=h.cm;exact fun k hk=>lW (fun i hi=>h.ann i (by omega)) h.dia (fun i j hi hj=>h.low i j (by omega) hj (by omega)) n (Nat.le_refl _) k (by omega) hk
end Go.Proofs.YthjjfkeacobikaaGreat
