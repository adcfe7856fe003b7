import Derived.Test.YthjjfkeacobikaaGreatPuAllG3
import Derived.Test.YthjjfkeacobikaaGreatPuAllG2
import Derived.Test.YthjjfkeacobikaaGreatPuAllG1
set_option linter.unusedVariables false
set_option linter.unusedSimpArgs false
namespace Go.Proofs.YthjjfkeacobikaaGreat
def pivM (M:List (List Int)) (c d:Nat):Nat:=match (M.drop d).findIdx? (fun r=>r[c]?.getD 0 != 0) with|some k=>d+k|none=>M.length
def swp {α:Type} [Inhabited α] (l:List α) (a b:Nat):List α:=(l.set a (l[b]?.getD default)).set b (l[a]?.getD default)
theorem cG {α:Type} [Inhabited α] (l:List α) (a b:Nat):(swp l a b).length=l.length:=by simp [swp]
theorem fU {α:Type} [Inhabited α] {l:List α} {a b:Nat} (ha:a<l.length) (hb:b<l.length) (i:Nat):(swp l a b)[i]?.getD default=if i=b then l[a]?.getD default else if i=a then l[b]?.getD default else l[i]?.getD default:=by
 unfold swp;by_cases h1:i=b
 ·subst h1;rw [if_pos rfl];simp [hb]
 ·rw [if_neg h1,List.getElem?_set_ne (Ne.symm h1)];by_cases h2:i=a
  ·subst h2;rw [if_pos rfl];simp [ha]
  ·rw [if_neg h2,List.getElem?_set_ne (Ne.symm h2)]
theorem swp_comm {α:Type} [Inhabited α] (l:List α) {a b:Nat} (ha:a<l.length) (hb:b<l.length):swp l a b=swp l b a:=by
 apply List.ext_getElem?
 intro i;by_cases hi:i<l.length
 ·have h1:=fU ha hb i;have h2:=fU hb ha i;have e:(if i=b then l[a]?.getD default else if i=a then l[b]?.getD default else l[i]?.getD default)=(if i=a then l[b]?.getD default else if i=b then l[a]?.getD default else l[i]?.getD default):=by
   by_cases h3:i=b
   ·subst h3;by_cases h4:i=a
    ·subst h4;simp
    ·simp [h4]
   ·simp [h3]
  rw [e,<-h2] at h1;have l1:i<(swp l a b).length:=by rw [cG];exact hi
  have l2:i<(swp l b a).length:=by rw [cG];exact hi
  rw [List.getElem?_eq_getElem l1,List.getElem?_eq_getElem l2] at h1 ⊢
  simpa using h1
 ·rw [List.getElem?_eq_none (by rw [cG];omega),List.getElem?_eq_none (by rw [cG];omega)]
def mixR (c:Nat) (p r:List Int):List Int:=(List.range r.length).map fun j=>r[j]?.getD 0*p[c]?.getD 0-r[c]?.getD 0*p[j]?.getD 0
def gcdL (l:List Int):Int:=l.foldl gI 0
def bJ (c:Nat) (p r:List Int):List Int:=if r[c]?.getD 0=0 then r else (mixR c p r).map fun x=>x.tdiv (max (gcdL (mixR c p r)) 1)
theorem dK (c:Nat) (p r:List Int):(mixR c p r).length=r.length:=by simp [mixR]
theorem pl (c:Nat) (p r:List Int):(bJ c p r).length=r.length:=by unfold bJ;split <;> simp [dK]
theorem fH {c:Nat} {p r:List Int} {j:Nat} (h:j<r.length):(mixR c p r)[j]?.getD 0=r[j]?.getD 0*p[c]?.getD 0-r[c]?.getD 0*p[j]?.getD 0:=by simp [mixR,h]
def redM (e:Nat->List Int->List Int->List Int) (c:Nat) (M:List (List Int)) (d t:Nat):List (List Int):=(List.range M.length).map fun i=>if d<i/\i<t then e c (M[d]?.getD []) (M[i]?.getD []) else M[i]?.getD []
theorem cZ (e:Nat->List Int->List Int->List Int) (c:Nat) (M:List (List Int)) (d t:Nat):(redM e c M d t).length=M.length:=by simp [redM]
theorem eT (e:Nat->List Int->List Int->List Int) (c:Nat) (M:List (List Int)) (d t:Nat) {i:Nat} (h:i<M.length):(redM e c M d t)[i]?.getD []=if d<i/\i<t then e c (M[d]?.getD []) (M[i]?.getD []) else M[i]?.getD []:=by simp [redM,h]
theorem gW {l l':List (List Int)} (hl:l.length=l'.length) (h:∀ i,i<l.length->l[i]?.getD []=l'[i]?.getD []):l=l':=by
 apply List.ext_getElem hl
 intro i h1 h2;have:=h i h1;rw [List.getElem?_eq_getElem h1,List.getElem?_eq_getElem h2] at this
 simpa using this
theorem jW (e:Nat->List Int->List Int->List Int) (c:Nat) (M:List (List Int)) (d:Nat):redM e c M d (d+1)=M:=by
 refine gW (cZ _ _ _ _ _) fun i hi=>?_
 rw [cZ] at hi;rw [eT _ _ _ _ _ hi,if_neg (by omega)]
theorem iu (e:Nat->List Int->List Int->List Int) (c:Nat) (M:List (List Int)) (d t:Nat) (h:d<t) (ht:t<M.length):(redM e c M d t).set t (e c (M[d]?.getD []) (M[t]?.getD []))=redM e c M d (t+1):=by
 refine gW (by simp [cZ]) fun i hi=>?_
 rw [List.length_set,cZ] at hi;rw [eT _ _ _ _ _ hi];by_cases hit:i=t
 ·subst hit;rw [if_pos ⟨h,by omega⟩,List.getElem?_set_self (by rw [cZ];exact ht)];rfl
 ·rw [List.getElem?_set_ne (Ne.symm hit),eT _ _ _ _ _ hi];by_cases h2:d<i/\i<t
  ·rw [if_pos h2,if_pos ⟨h2.1,by omega⟩]
  ·rw [if_neg h2,if_neg (by omega)]
theorem eU (e:Nat->List Int->List Int->List Int) (c:Nat) (M:List (List Int)) (d t i:Nat) (h:i<M.length) (hi:t<=i ∨ i<=d):(redM e c M d t)[i]?.getD []=M[i]?.getD []:=by
 rw [eT _ _ _ _ _ h,if_neg (by omega)]
theorem pZ {e:Nat->List Int->List Int->List Int} {c:Nat} {M:List (List Int)} {d t:Nat} (h:d<t) (ht:t<M.length) (he:e c (M[d]?.getD []) (M[t]?.getD [])=M[t]?.getD []):redM e c M d t=redM e c M d (t+1):=by
 rw [<-iu e c M d t h ht,he];refine gW (by simp) fun i hi=>?_
 rw [cZ] at hi;by_cases hit:i=t
 ·subst hit;rw [List.getElem?_set_self (by rw [cZ];exact hi),eU _ _ _ _ _ _ hi (by omega)];rfl
 ·rw [List.getElem?_set_ne (Ne.symm hit)]
def midL (m r:List Int) (j:Nat):List Int:=m.take j++r.drop j
theorem kX (m r:List Int):midL m r 0=r:=by simp [midL]
theorem mp {m r:List Int} (h:m.length=r.length):midL m r m.length=m:=by unfold midL;rw [List.take_length,h,List.drop_length,List.append_nil]
theorem nN {m r:List Int} (h:m.length=r.length) {j:Nat} (hj:j<r.length):(midL m r j)[j]?.getD 0=r[j]?.getD 0:=by
 unfold midL;have hl:(m.take j).length=j:=by simp;omega
 rw [List.getElem?_append_right (by omega),hl,List.getElem?_drop];simp
theorem midL_set {m r:List Int} (h:m.length=r.length) {j:Nat} (hj:j<r.length):(midL m r j).set j (m[j]?.getD 0)=midL m r (j+1):=by
 unfold midL;have hl:(m.take j).length=j:=by simp;omega
 rw [List.set_append_right _ _ (by omega),hl,Nat.sub_self,List.drop_eq_getElem_cons hj,List.set_cons_zero,cw (by omega),List.append_assoc]
 rfl
theorem set_same {M:List (List Int)} {i:Nat} {r:List Int} (hi:i<M.length) (h:M[i]?.getD []=r):M.set i r=M:=by
 refine gW (by simp) fun k hk=>?_
 rw [List.length_set] at hk;by_cases e:k=i
 ·subst e;rw [List.getElem?_set_self hi,h];rfl
 ·rw [List.getElem?_set_ne (Ne.symm e)]
theorem lB {M:List (List Int)} {i j:Nat} {m r:List Int} (hi:i<M.length) (hl:m.length=r.length) (hj:j<r.length):(M.set i (midL m r j)).set i (((M.set i (midL m r j))[i]?.getD []).set j (m[j]?.getD 0))=M.set i (midL m r (j+1)):=by
 rw [List.getElem?_set_self hi,Option.getD_some,List.set_set,midL_set hl hj]
def colM (e:Nat->List Int->List Int->List Int) (c:Nat) (s:List (List Int) × Nat):List (List Int) × Nat :=
 if pivM s.1 c s.2<s.1.length then (redM e c (swp s.1 s.2 (pivM s.1 c s.2)) s.2 s.1.length,s.2+1) else s
def runM (e:Nat->List Int->List Int->List Int) (M:List (List Int)):Nat->List (List Int) × Nat
 | 0=>(M,0)
 | c+1=>colM e c (runM e M c)
theorem dH {M:List (List Int)} {c d:Nat} (h:pivM M c d<M.length):d<=pivM M c d/\(M[pivM M c d]?.getD [])[c]?.getD 0 ≠ 0/\∀ i,d<=i->i<pivM M c d->(M[i]?.getD [])[c]?.getD 0=0:=by
 unfold pivM at h ⊢;cases hf:(M.drop d).findIdx? (fun r=>r[c]?.getD 0 != 0) with
 | none=>rw [hf] at h;simp at h
 | some k =>
   simp only;rw [List.findIdx?_eq_some_iff_getElem] at hf;obtain ⟨h1,h2,h3⟩:=hf;rw [List.length_drop] at h1;refine ⟨by omega,?_,fun i hi hi2=>?_⟩
   ·rw [List.getElem_drop] at h2;have:d+k<M.length:=by omega
    rw [List.getElem?_eq_getElem this];simpa using h2
   ·have h4:=h3 (i-d) (by omega);rw [List.getElem_drop] at h4;have:i<M.length:=by omega
    rw [List.getElem?_eq_getElem this];have e:d+(i-d)=i:=by omega
    simp only [e] at h4
    simpa using h4
theorem fe {M:List (List Int)} {c d:Nat} (h:¬ pivM M c d<M.length) (hd:d<=M.length):pivM M c d=M.length/\∀ i,d<=i->i<M.length->(M[i]?.getD [])[c]?.getD 0=0:=by
 unfold pivM at h ⊢;cases hf:(M.drop d).findIdx? (fun r=>r[c]?.getD 0 != 0) with
 | none =>
   refine ⟨rfl,fun i hi hi2=>?_⟩;rw [List.findIdx?_eq_none_iff] at hf;have:=hf (M[i]) (List.mem_drop_iff_getElem.2 ⟨i-d,by omega,by congr 1;omega⟩);rw [List.getElem?_eq_getElem hi2]
   simpa using this
 | some k =>
   rw [hf] at h;simp only at h;rw [List.findIdx?_eq_some_iff_getElem] at hf;obtain ⟨h1,_⟩:=hf;rw [List.length_drop] at h1;omega
theorem pivM_is {M:List (List Int)} {c d k:Nat} (hk:d<=k) (hkl:k<M.length) (h:(M[k]?.getD [])[c]?.getD 0 ≠ 0) (hz:∀ i,d<=i->i<k->(M[i]?.getD [])[c]?.getD 0=0):pivM M c d=k:=by
 by_cases hp:pivM M c d<M.length
 ·obtain ⟨h1,h2,h3⟩:=dH hp
  rcases Nat.lt_trichotomy (pivM M c d) k with h4|h4|h4
  ·exact absurd (hz _ h1 h4) h2
  ·exact h4
  ·exact absurd (h3 k hk h4) h
 ·exact absurd ((fe hp (by omega)).2 k hk hkl) h
theorem pivM_end {M:List (List Int)} {c d:Nat} (hd:d<=M.length) (hz:∀ i,d<=i->i<M.length->(M[i]?.getD [])[c]?.getD 0=0):pivM M c d=M.length:=by
 by_cases hp:pivM M c d<M.length
 ·obtain ⟨h1,h2,h3⟩:=dH hp;exact absurd (hz _ h1 hp) h2
 ·exact (fe hp hd).1
theorem nW (M:List (List Int)) (c:Nat) {d:Nat} (hd:d<=M.length):d<=pivM M c d/\pivM M c d<=M.length:=by
 by_cases hp:pivM M c d<M.length
 ·exact ⟨(dH hp).1,Nat.le_of_lt hp⟩
 ·rw [(fe hp hd).1];exact ⟨hd,Nat.le_refl _⟩
theorem pT {M:List (List Int)} {c d k:Nat} (hd:d<=M.length) (h1:d<=k) (h2:k<pivM M c d):(M[k]?.getD [])[c]?.getD 0=0:=by
 by_cases hp:pivM M c d<M.length
 ·exact (dH hp).2.2 k h1 h2
 ·have:=fe hp hd;exact this.2 k h1 (by omega)
def Good (n:Nat) (B:Int) (M:List (List Int)):Prop:=∀ i,i<M.length->(M[i]?.getD []).length=n/\∀ j:Nat,-B<=(M[i]?.getD [])[j]?.getD 0/\(M[i]?.getD [])[j]?.getD 0<=B
def bdM:Nat->Int
 | 0=>1
 | d+1=>2*(bdM d*bdM d)
theorem eJ:∀ d,d<=4->1<=bdM d/\bdM d<=32768/\bdM d<=bdM (d+1):=by
 have:∀ d:Fin 5,1<=bdM d.val/\bdM d.val<=32768/\bdM d.val<=bdM (d.val+1):=by decide +kernel
 exact fun d hd=>this ⟨d,by omega⟩
theorem eS {x y B:Int} (h1:-B<=x) (h2:x<=B) (h3:-B<=y) (h4:y<=B):-(B*B)<=x*y/\x*y<=B*B:=by
 have hx:x.natAbs<=B.natAbs:=by omega
 have hy:y.natAbs<=B.natAbs:=by omega
 have h:(x*y).natAbs<=B.natAbs*B.natAbs:=by rw [Int.natAbs_mul];exact Nat.mul_le_mul hx hy
 have e:((B.natAbs*B.natAbs:Nat):Int)=B*B:=by
    rw [Int.natCast_mul];have:(B.natAbs:Int)=B:=by omega
    rw [this]
 omega
theorem mq {c:Nat} {p r:List Int} {B:Int} (hp:∀ j:Nat,-B<=p[j]?.getD 0/\p[j]?.getD 0<=B) (hr:∀ j:Nat,-B<=r[j]?.getD 0/\r[j]?.getD 0<=B) (j:Nat) :
 -(2*(B*B))<=(mixR c p r)[j]?.getD 0/\(mixR c p r)[j]?.getD 0<=2*(B*B):=by
 by_cases h:j<r.length
 ·rw [fH h];have h1:=eS (hr j).1 (hr j).2 (hp c).1 (hp c).2;have h2:=eS (hr c).1 (hr c).2 (hp j).1 (hp j).2;omega
 ·rw [List.getElem?_eq_none (by rw [dK];omega)];simp only [Option.getD_none];have:=eS (hr 0).1 (hr 0).2 (hr 0).1 (hr 0).2;have h0:0<=B*B:=by
     have h1:=hr 0;have:0<=B:=by omega
     exact Int.mul_nonneg this this
  omega
theorem elim_bd {c:Nat} {p r:List Int} {B:Int} (hB:1<=B) (hp:∀ j:Nat,-B<=p[j]?.getD 0/\p[j]?.getD 0<=B) (hr:∀ j:Nat,-B<=r[j]?.getD 0/\r[j]?.getD 0<=B) (j:Nat) :
 -(2*(B*B))<=(bJ c p r)[j]?.getD 0/\(bJ c p r)[j]?.getD 0<=2*(B*B):=by
 have hBB:B<=B*B:=by have:=Int.mul_le_mul_of_nonneg_left hB (show 0<=B by omega);omega
 unfold bJ
 split
 ·have:=hr j;omega
 ·have h1:=mq (c:=c) hp hr j;by_cases h:j<r.length
  ·have e:((mixR c p r).map fun x=>x.tdiv (max (gcdL (mixR c p r)) 1))[j]?.getD 0=((mixR c p r)[j]?.getD 0).tdiv (max (gcdL (mixR c p r)) 1):=by
    simp [dK,h]
   rw [e];generalize (mixR c p r)[j]?.getD 0=x at *;have h2:(x.tdiv (max (gcdL (mixR c p r)) 1)).natAbs<=x.natAbs:=by rw [Int.natAbs_tdiv];exact Nat.div_le_self _ _
   omega
  ·rw [List.getElem?_eq_none (by simp [dK];omega)];simp only [Option.getD_none];omega
theorem fL {n:Nat} {B:Int} {M:List (List Int)} (h:Good n B M) {a b:Nat} (ha:a<M.length) (hb:b<M.length):Good n B (swp M a b):=by
 intro i hi;rw [cG] at hi;have:=fU ha hb i;change (swp M a b)[i]?.getD []=_ at this;rw [this]
 split
 ·exact h a ha
 ·split
  ·exact h b hb
  ·exact h i hi
theorem jb {n:Nat} {B B':Int} {M:List (List Int)} (h:Good n B M) (hBB:B<=B') {e:Nat->List Int->List Int->List Int} {c d t:Nat} (hd:d<M.length)
 (he:∀ p r:List Int,p.length=n->r.length=n->(∀ j:Nat,-B<=p[j]?.getD 0/\p[j]?.getD 0<=B)->(∀ j:Nat,-B<=r[j]?.getD 0/\r[j]?.getD 0<=B)->(e c p r).length=n/\∀ j:Nat,-B'<=(e c p r)[j]?.getD 0/\(e c p r)[j]?.getD 0<=B'):Good n B' (redM e c M d t):=by
 intro i hi;rw [cZ] at hi;rw [eT _ _ _ _ _ hi]
 split
 ·exact he _ _ (h d hd).1 (h i hi).1 (h d hd).2 (h i hi).2
 ·have:=h i hi;exact ⟨this.1,fun j=>by have:=this.2 j;omega⟩
def Tame (e:Nat->List Int->List Int->List Int):Prop:=∀ (B:Int) (n c:Nat) (p r:List Int),1<=B->p.length=n->r.length=n->(∀ j:Nat,-B<=p[j]?.getD 0/\p[j]?.getD 0<=B)->(∀ j:Nat,-B<=r[j]?.getD 0/\r[j]?.getD 0<=B)->(e c p r).length=n/\∀ j:Nat,-(2*(B*B))<=(e c p r)[j]?.getD 0/\(e c p r)[j]?.getD 0<=2*(B*B)
theorem kh:Tame bJ:=fun B n c p r hB hp hr h1 h2=>⟨by rw [pl,hr],fun j=>elim_bd hB h1 h2 j⟩
theorem mV:Tame mixR:=fun B n c p r hB hp hr h1 h2=>⟨by rw [dK,hr],fun j=>mq h1 h2 j⟩
theorem fJ {e:Nat->List Int->List Int->List Int} (he:Tame e) {n:Nat} {M:List (List Int)} (h:Good n 1 M):∀ c,c<=5->(runM e M c).2<=c/\(runM e M c).1.length=M.length/\(runM e M c).2<=M.length/\Good n (bdM (runM e M c).2) (runM e M c).1
 | 0,_=>⟨Nat.le_refl _,rfl,Nat.zero_le _,h⟩
 | c+1,hc=>by
   obtain ⟨h1,h2,h3,h4⟩:=fJ he h c (by omega)
   show (colM e c (runM e M c)).2<=c+1/\(colM e c (runM e M c)).1.length=M.length/\(colM e c (runM e M c)).2<=M.length/\Good n (bdM (colM e c (runM e M c)).2) (colM e c (runM e M c)).1;unfold colM;generalize runM e M c=s at *
   split
   ·next hp =>
    have hb:=eJ s.2 (by omega);have hps:=(dH hp).1;refine ⟨by simp only;omega,by simp only [cZ,cG];exact h2,by simp only;omega,?_⟩;refine jb (fL h4 (by omega) hp) hb.2.2 (by rw [cG];omega) fun p r hpl hrl h5 h6=>he _ n c p r hb.1 hpl hrl h5 h6
   ·exact ⟨by omega,h2,h3,h4⟩
def SimR (n:Nat) (a b:List Int):Prop:=∃ u v:Int,u ≠ 0/\v ≠ 0/\∀ j,j<n->u*a[j]?.getD 0=v*b[j]?.getD 0
theorem SimR.refl (n:Nat) (a:List Int):SimR n a a:=⟨1,1,by omega,by omega,fun _ _=>rfl⟩
theorem SimR.zero {n:Nat} {a b:List Int} (h:SimR n a b) {j:Nat} (hj:j<n):a[j]?.getD 0=0 ↔ b[j]?.getD 0=0:=by
 obtain ⟨u,v,hu,hv,h⟩:=h;have:=h j hj;constructor
 ·intro e;rw [e,Int.mul_zero] at this
  rcases Int.mul_eq_zero.1 this.symm with h|h
  ·exact absurd h hv
  ·exact h
 ·intro e;rw [e,Int.mul_zero] at this
  rcases Int.mul_eq_zero.1 this with h|h
  ·exact absurd h hu
  ·exact h
theorem gcdL_dvd (l:List Int):∀ (g:Int),(l.foldl gI g) ∣ g/\∀ x ∈ l,(l.foldl gI g) ∣ x:=by
 induction l with
 | nil=>intro g;exact ⟨Int.dvd_refl _,fun x hx=>absurd hx (by simp)⟩
 | cons a l ih =>
   intro g;obtain ⟨h1,h2⟩:=ih (gI g a);refine ⟨Int.dvd_trans h1 (kp g a),fun x hx=>?_⟩
   rcases List.mem_cons.1 hx with rfl|hx
   ·exact Int.dvd_trans h1 (iB g x)
   ·exact h2 x hx
theorem np (l:List Int):∀ g:Int,0<=g->0<=l.foldl gI g:=by
 induction l with
 | nil=>exact fun g h=>h
 | cons a l ih=>exact fun g h=>ih _ (kR g a)
theorem qv {l:List Int} {x:Int} (hx:x ∈ l):x.tdiv (max (gcdL l) 1)*max (gcdL l) 1=x:=by
 have h1:=(gcdL_dvd l 0).2 x hx;have h0:=np l 0 (Int.le_refl _);change gcdL l ∣ x at h1;change 0<=gcdL l at h0;by_cases hg:gcdL l=0
 ·rw [hg] at h1 ⊢;have:x=0:=Int.zero_dvd.1 h1;subst this;simp
 ·rw [show max (gcdL l) 1=gcdL l by omega];exact Int.tdiv_mul_cancel h1
theorem sim_elim {n c:Nat} {p q r s:List Int} (hc:c<n) (hr:r.length=n) (hs:s.length=n) (h:SimR n p q) (k:SimR n r s) (hp:p[c]?.getD 0 ≠ 0):SimR n (bJ c p r) (mixR c q s):=by
 have hq:q[c]?.getD 0 ≠ 0:=fun e=>hp ((h.zero hc).2 e)
 have hz:=k.zero hc;obtain ⟨u',v',hu',hv',h⟩:=h;obtain ⟨u,v,hu,hv,k⟩:=k;unfold bJ
 split
 ·next h0 =>
  have s0:=hz.1 h0;refine ⟨u*q[c]?.getD 0,v,Int.mul_ne_zero hu hq,hv,fun j hj=>?_⟩;rw [fH (by omega),s0];have:=k j hj
  grind
 ·refine ⟨u*u'*max (gcdL (mixR c p r)) 1,v*v',Int.mul_ne_zero (Int.mul_ne_zero hu hu') (by omega),Int.mul_ne_zero hv hv',fun j hj=>?_⟩;have hj':j<(mixR c p r).length:=by rw [dK];omega
  have e1:((mixR c p r).map fun x=>x.tdiv (max (gcdL (mixR c p r)) 1))[j]?.getD 0=((mixR c p r)[j]?.getD 0).tdiv (max (gcdL (mixR c p r)) 1):=by simp [hj']
  have e2:=qv (l:=mixR c p r) (x:=(mixR c p r)[j]?.getD 0) (by rw [List.getElem?_eq_getElem hj'];simp);rw [e1,fH (show j<s.length by omega)];have e3:=fH (c:=c) (p:=p) (r:=r) (j:=j) (by omega);generalize ((mixR c p r)[j]?.getD 0).tdiv (max (gcdL (mixR c p r)) 1)=z at *;generalize max (gcdL (mixR c p r)) 1=G at *;have k1:=k j hj;have k2:=k c hc;have h1:=h j hj;have h2:=h c hc;rw [e3] at e2;generalize r[j]?.getD 0=rj at *;generalize r[c]?.getD 0=rc at *;generalize s[j]?.getD 0=sj at *;generalize s[c]?.getD 0=sc at *;generalize p[j]?.getD 0=pj at *;generalize p[c]?.getD 0=pc at *;generalize q[j]?.getD 0=qj at *;generalize q[c]?.getD 0=qc at *;have a1:u*u'*G*z=u*u'*(rj*pc-rc*pj):=by rw [<-e2];grind
  rw [a1];have a2:u*u'*(rj*pc-rc*pj)=(u*rj)*(u'*pc)-(u*rc)*(u'*pj):=by grind
  rw [a2,k1,k2,h1,h2]
  grind
structure SimM (n:Nat) (M K:List (List Int)):Prop where
 len:M.length=K.length
 row:∀ i,i<M.length->SimR n (M[i]?.getD []) (K[i]?.getD [])
theorem sim_piv {n c d:Nat} {M K:List (List Int)} (hc:c<n) (hd:d<=M.length) (h:SimM n M K):pivM M c d=pivM K c d:=by
 by_cases hp:pivM M c d<M.length
 ·obtain ⟨h1,h2,h3⟩:=dH hp;refine (pivM_is h1 (by rw [<-h.len];exact hp) (fun e=>h2 (((h.row _ hp).zero hc).2 e)) fun i hi hi2=>((h.row i (by omega)).zero hc).1 (h3 i hi hi2)).symm
 ·obtain ⟨h1,h2⟩:=fe hp hd;rw [h1,h.len];exact (pivM_end (by rw [<-h.len];exact hd) fun i hi hi2=>((h.row i (by rw [h.len];exact hi2)).zero hc).1 (h2 i hi (by rw [h.len];exact hi2))).symm
theorem oc {n:Nat} {M:List (List Int)} (h:Good n 1 M) (hn:n<=5):∀ c,c<=n->SimM n (runM bJ M c).1 (runM mixR M c).1/\(runM bJ M c).2=(runM mixR M c).2
 | 0,_=>⟨⟨rfl,fun i _=>SimR.refl _ _⟩,rfl⟩
 | c+1,hc=>by
   obtain ⟨h1,h2⟩:=oc h hn c (by omega);obtain ⟨a1,a2,a3,a4⟩:=fJ kh h c (by omega);obtain ⟨b1,b2,b3,b4⟩:=fJ mV h c (by omega)
   show SimM n (colM bJ c (runM bJ M c)).1 (colM mixR c (runM mixR M c)).1/\(colM bJ c (runM bJ M c)).2=(colM mixR c (runM mixR M c)).2;generalize runM bJ M c=s at *;generalize runM mixR M c=t at *;obtain ⟨S,d⟩:=s;obtain ⟨T,d'⟩:=t;simp only at *;subst h2;have hpv:=sim_piv (show c<n by omega) (show d<=S.length by omega) h1;unfold colM;simp only;rw [<-hpv];by_cases hp:pivM S c d<S.length
   ·rw [if_pos hp,if_pos (by rw [<-h1.len];exact hp)];obtain ⟨p1,p2,p3⟩:=dH hp;have hlen:=h1.len;have hdS:d<S.length:=by omega
    refine ⟨⟨by simp [cZ,cG,hlen],fun i hi=>?_⟩,rfl⟩;rw [cZ,cG] at hi;have sw:∀ i,i<S.length->SimR n ((swp S d (pivM S c d))[i]?.getD []) ((swp T d (pivM S c d))[i]?.getD []):=by
     intro i hi;have e1:=fU hdS hp i;have e2:=fU (l:=T) (show d<T.length by omega) (show pivM S c d<T.length by omega) i;change (swp S d (pivM S c d))[i]?.getD []=_ at e1;change (swp T d (pivM S c d))[i]?.getD []=_ at e2;rw [e1,e2]
     split
     ·exact h1.row d hdS
     ·split
      ·exact h1.row _ hp
      ·exact h1.row i hi
    rw [eT _ _ _ _ _ (by rw [cG];exact hi),eT _ _ _ _ _ (by rw [cG];omega),<-hlen]
    split
    ·next hdi =>
     have g1:=fL a4 hdS hp;have g2:=fL b4 (show d<T.length by omega) (show pivM S c d<T.length by omega);refine sim_elim (by omega) (g1 i (by rw [cG];exact hi)).1 (g2 i (by rw [cG];omega)).1 (sw d hdS) (sw i hi) ?_;have e1:=fU hdS hp d;change (swp S d (pivM S c d))[d]?.getD []=_ at e1;rw [e1];by_cases hdp:d=pivM S c d
     ·rw [if_pos hdp];rw [<-hdp] at p2;exact p2
     ·rw [if_neg hdp,if_pos rfl];exact p2
    ·exact sw i hi
   ·rw [if_neg hp,if_neg (by rw [<-h1.len];exact hp)];exact ⟨h1,rfl⟩
def digR (n:Nat) (s:Int):List Int:=(List.range n).map fun (k:Nat)=>bitI (hasP s (k:Int))
theorem gS (n:Nat) (s:Int):(digR n s).length=n:=by simp [digR]
theorem kM (n:Nat) (s:Int):digR n s++[bitI (hasP s (n:Int))]=digR (n+1) s:=by simp [digR,List.range_succ]
theorem gT (n:Nat) (l:List Int):Good n 1 (l.map (digR n)):=by
 intro i hi;have hi':i<l.length:=by simpa using hi
 have e:(l.map (digR n))[i]?.getD []=digR n (l[i]):=by simp [hi']
 rw [e];refine ⟨gS _ _,fun j=>?_⟩;by_cases hj:j<n
 ·simp only [digR,List.getElem?_map,List.getElem?_range hj,Option.map_some,Option.getD_some];unfold bitI;split <;> omega
 ·rw [List.getElem?_eq_none (by rw [gS];omega)];simp
def dX (n:Int) (l:List Int):Int:=if inB n 1 5=true then ((runM bJ (l.map (digR n.toNat)) n.toNat).2:Int) else 0
def fA (n:Int) (l:List Int):Int:=if inB n 1 5=true then ((runM mixR (l.map (digR n.toNat)) n.toNat).2:Int) else 0
theorem pW (n:Int) (l:List Int):dX n l=fA n l:=by
 unfold dX fA
 split
 ·next h =>
  simp only [inB,Bool.and_eq_true,decide_eq_true_eq] at h;rw [(oc (gT n.toNat l) (by omega) n.toNat (Nat.le_refl _)).2]
 ·rfl
open Go.RowKit
structure Mat (w:World) (base:Nat) (a:Option Addr) (N cap:Nat) (vs:List Value) (M:List (List Int)):Prop where
 own:OwnV w base (.slice a N cap) vs
 rows:bj w base vs M
theorem Mat.vlen {w:World} {base:Nat} {a:Option Addr} {N cap:Nat} {vs:List Value} {M:List (List Int)} (h:Mat w base a N cap vs M):vs.length=N:=h.own.len
theorem Mat.len {w:World} {base:Nat} {a:Option Addr} {N cap:Nat} {vs:List Value} {M:List (List Int)} (h:Mat w base a N cap vs M):M.length=N:=by rw [<-h.rows.len];exact h.own.len
theorem Mat.cap {w:World} {base:Nat} {a:Option Addr} {N cap:Nat} {vs:List Value} {M:List (List Int)} (h:Mat w base a N cap vs M):N<=cap/\cap<=9223372036854775807:=by
 obtain ⟨a',c',he,h1,h2⟩:=h.own.form;simp only [Value.slice.injEq] at he;obtain ⟨_,h3,rfl⟩:=he;exact ⟨by omega,h2⟩
theorem Mat.ext {w w':World} {base:Nat} {a:Option Addr} {N cap:Nat} {vs:List Value} {M:List (List Int)} (h:Mat w base a N cap vs M) (hx:Ext w w'):Mat w' base a N cap vs M:=⟨h.own.ext hx,h.rows.ext hx⟩
theorem Mat.intss {w:World} {base:Nat} {a:Option Addr} {N cap:Nat} {vs:List Value} {M:List (List Int)} (h:Mat w base a N cap vs M):dD w a N cap M :=
 fW.intss ⟨vs,h.own,h.rows⟩
theorem Mat.outer {w:World} {base:Nat} {a:Option Addr} {N cap:Nat} {vs:List Value} {M:List (List Int)} (h:Mat w base a N cap vs M) (hN:0<N):∃ G,a=some ⟨G,0,none⟩/\base<=G/\G<w.heap.size/\∀ j,w.frozen? ⟨G,j,none⟩=false:=by
 rcases h.own.2 with ⟨he,h0⟩|⟨g,cap',cur,he,hb,hg,_⟩
 ·simp only [Value.slice.injEq] at he;omega
 ·simp only [Value.slice.injEq] at he;obtain ⟨rfl,_⟩:=he;exact ⟨g,rfl,hb,lt_of_block hg,fun j=>frozen_of_row w g j cur _ hg⟩
theorem Mat.row {w:World} {base G N cap:Nat} {vs:List Value} {M:List (List Int)} (h:Mat w base (some ⟨G,0,none⟩) N cap vs M) {i n:Nat} (hi:i<N) (hn:(M[i]?.getD []).length=n) (h1:1<=n) :
 ∃ g c,vs[i]?.getD undef=.slice (some ⟨g,0,none⟩) n c/\w.cell? ⟨G,i,none⟩=some (.slice (some ⟨g,0,none⟩) n c)/\OwnI w base (.slice (some ⟨g,0,none⟩) n c) (M[i]?.getD [])/\g ≠ G/\base<=g/\g<w.heap.size/\n<=c/\c<=9223372036854775807:=by
 have hr:=h.rows.row i (by rw [h.len];exact hi);obtain ⟨a',c,he,hc1,hc2⟩:=hr.form;rw [he] at hr;rw [hn] at he hr hc1;obtain ⟨g,rfl,hb,_,hgl⟩:=hr.block (k:=0) (by omega);obtain ⟨G',hG,_,hc⟩:=h.own.cell hi;simp only [Option.some.injEq,Addr.mk.injEq,and_true] at hG;subst hG;refine ⟨g,c,he,?_,hr,fun e=>hr.apart h.own g rfl (by subst e;rfl),hb,hgl,hc1,hc2⟩;rw [hc i hi,<-he];have:i<vs.length:=by rw [h.vlen];exact hi
 simp [this]
theorem Mat.inrow {w:World} {base G N cap:Nat} {vs:List Value} {M:List (List Int)} (h:Mat w base (some ⟨G,0,none⟩) N cap vs M) {i n g c:Nat} (hi:i<N) (hv:vs[i]?.getD undef=.slice (some ⟨g,0,none⟩) n c) (j:Nat) (x:Int) :
 Mat (w.setCell ⟨g,j,none⟩ (.int .i64 x)) base (some ⟨G,0,none⟩) N cap vs (M.set i ((M[i]?.getD []).set j x)):=by
 have hil:i<M.length:=by rw [h.len];exact hi
 have hr:=h.rows.row i hil;rw [hv] at hr;have hgG:g ≠ G:=fun e=>hr.apart h.own g rfl (by subst e;rfl)
 refine ⟨h.own.keep fun k hk=>heap_setCell_other _ _ _ _ (by simp only [Value.ownBlock,Option.some.injEq] at hk;show k ≠ g;omega),?_⟩;refine ⟨by rw [List.length_set];exact h.rows.len,fun k hk=>?_,fun a b k hab hb=>h.rows.apart a b k hab (by rw [List.length_set] at hb;exact hb)⟩;rw [List.length_set] at hk;by_cases hki:k=i
 ·subst hki;rw [hv,List.getElem?_set_self hil];exact hr.set j x
 ·rw [List.getElem?_set_ne (Ne.symm hki)];refine (h.rows.row k hk).keep fun b hb=>heap_setCell_other _ _ _ _ fun e=>?_
  subst e
  rcases Nat.lt_or_gt_of_ne hki with hlt|hlt
  ·exact h.rows.apart k i _ hlt hil hb (by rw [hv];rfl)
  ·exact h.rows.apart i k _ hlt hk (by rw [hv];rfl) hb
theorem Mat.put {w0 w:World} {base G N cap:Nat} {vs:List Value} {M:List (List Int)} (h:Mat w0 base (some ⟨G,0,none⟩) N cap vs M) (hx:Ext w0 w) (hb:base<=w0.heap.size) {v:Value} {l:List Int} (ho:OwnI w w0.heap.size v l) {i:Nat} (hi:i<N) :
 Mat (w.setCell ⟨G,i,none⟩ v) base (some ⟨G,0,none⟩) N cap (vs.set i v) (M.set i l):=by
 have hil:i<M.length:=by rw [h.len];exact hi
 have hvl:i<vs.length:=by rw [h.vlen];exact hi
 have hW:=h.ext hx;obtain ⟨G',hG,hbG,hGl,_⟩:=h.outer (by omega);simp only [Option.some.injEq,Addr.mk.injEq,and_true] at hG;subst hG;have hother:∀ k,k ≠ G->(w.setCell ⟨G,i,none⟩ v).heap[k]?=w.heap[k]?:=fun k hk=>heap_setCell_other _ _ _ _ hk
 refine ⟨?_,⟨by rw [List.length_set,List.length_set];exact h.rows.len,fun k hk=>?_,fun a b k hab hb2 hk hk2=>?_⟩⟩
 ·have ho:=hW.own;unfold OwnV at ho;rw [hW.vlen] at ho;have:=(World.ownsRow.stored ho i v).1;unfold OwnV;rw [List.length_set,hW.vlen];exact this
 ·rw [List.length_set] at hk;by_cases hki:k=i
  ·subst hki;rw [List.getElem?_set_self hvl,List.getElem?_set_self hil];exact (ho.keep fun b hb'=>hother b (by have:=(ho.lt b hb').1;omega)).mono hb
  ·rw [List.getElem?_set_ne (Ne.symm hki),List.getElem?_set_ne (Ne.symm hki)];refine (hW.rows.row k hk).keep fun b hb'=>hother b fun e=>?_
   subst e;exact (hW.rows.row k hk).apart hW.own _ hb' rfl
 ·rw [List.length_set] at hb2;by_cases hai:a=i
  ·subst hai;rw [List.getElem?_set_self hvl] at hk;rw [List.getElem?_set_ne (by omega)] at hk2;have h1:=(ho.lt k hk).1;have h2:=((h.rows.row b hb2).lt k hk2).2;omega
  ·rw [List.getElem?_set_ne (Ne.symm hai)] at hk;by_cases hbi:b=i
   ·subst hbi;rw [List.getElem?_set_self hvl] at hk2;have h1:=(ho.lt k hk2).1;have h2:=((h.rows.row a (by omega)).lt k hk).2;omega
   ·rw [List.getElem?_set_ne (Ne.symm hbi)] at hk2;exact h.rows.apart a b k hab hb2 hk hk2
def swpV (l:List Value) (a b:Nat):List Value:=(l.set a (l[b]?.getD undef)).set b (l[a]?.getD undef)
theorem mU (l:List Value) (a b:Nat):(swpV l a b).length=l.length:=by simp [swpV]
theorem gQ {l:List Value} {a b:Nat} (ha:a<l.length) (hb:b<l.length) (i:Nat):(swpV l a b)[i]?.getD undef=if i=b then l[a]?.getD undef else if i=a then l[b]?.getD undef else l[i]?.getD undef:=by
 unfold swpV;by_cases h1:i=b
 ·subst h1;rw [if_pos rfl,List.getElem?_set_self (by simp [hb])];rfl
 ·rw [if_neg h1,List.getElem?_set_ne (Ne.symm h1)];by_cases h2:i=a
  ·subst h2;rw [if_pos rfl,List.getElem?_set_self ha];rfl
  ·rw [if_neg h2,List.getElem?_set_ne (Ne.symm h2)]
theorem bj.apart' {w:World} {base:Nat} {vs:List Value} {L:List (List Int)} (h:bj w base vs L) {i j k:Nat} (hij:i ≠ j) (hi:i<L.length) (hj:j<L.length) (hk:(vs[i]?.getD undef).ownBlock=some k):(vs[j]?.getD undef).ownBlock ≠ some k:=by
 rcases Nat.lt_or_gt_of_ne hij with h1|h1
 ·exact h.apart i j k h1 hj hk
 ·exact fun e=>h.apart j i k h1 hi e hk
theorem Mat.swap {w:World} {base G N cap:Nat} {vs:List Value} {M:List (List Int)} (h:Mat w base (some ⟨G,0,none⟩) N cap vs M) {a b:Nat} (ha:a<N) (hb:b<N) :
 Mat ((w.setCell ⟨G,a,none⟩ (vs[b]?.getD undef)).setCell ⟨G,b,none⟩ (vs[a]?.getD undef)) base (some ⟨G,0,none⟩) N cap (swpV vs a b) (swp M a b):=by
 have hal:a<M.length:=by rw [h.len];exact ha
 have hbl:b<M.length:=by rw [h.len];exact hb
 have hva:a<vs.length:=by rw [h.vlen];exact ha
 have hvb:b<vs.length:=by rw [h.vlen];exact hb
 have hrow:∀ i,i<M.length->(swp M a b)[i]?.getD []=if i=b then M[a]?.getD [] else if i=a then M[b]?.getD [] else M[i]?.getD []:=fun i _=>fU hal hbl i
 have hother:∀ k,k ≠ G->((w.setCell ⟨G,a,none⟩ (vs[b]?.getD undef)).setCell ⟨G,b,none⟩ (vs[a]?.getD undef)).heap[k]?=w.heap[k]?:=fun k hk=>by rw [heap_setCell_other _ _ _ _ hk,heap_setCell_other _ _ _ _ hk]
 refine ⟨?_,⟨by rw [mU,cG];exact h.rows.len,fun i hi=>?_,fun i j k hij hj hk hk2=>?_⟩⟩
 ·have ho:=h.own;unfold OwnV at ho;rw [h.vlen] at ho;have h1:=(World.ownsRow.stored ho a (vs[b]?.getD undef)).1;have h2:=(World.ownsRow.stored h1 b (vs[a]?.getD undef)).1;unfold OwnV;rw [mU,h.vlen];exact h2
 ·rw [cG] at hi;have key:∀ k,k<M.length->OwnI ((w.setCell ⟨G,a,none⟩ (vs[b]?.getD undef)).setCell ⟨G,b,none⟩ (vs[a]?.getD undef)) base (vs[k]?.getD undef) (M[k]?.getD []):=fun k hk =>
   (h.rows.row k hk).keep fun c hc=>hother c fun e=>by subst e;exact (h.rows.row k hk).apart h.own _ hc rfl
  rw [gQ hva hvb,hrow i hi]
  split
  ·exact key a hal
  ·split
   ·exact key b hbl
   ·exact key i hi
 ·rw [cG] at hj;rw [gQ hva hvb] at hk hk2;have hi:i<M.length:=by omega
  have pick:∀ i,i<M.length->∃ s,s<M.length/\(if i=b then vs[a]?.getD undef else if i=a then vs[b]?.getD undef else vs[i]?.getD undef)=vs[s]?.getD undef/\s=(if i=b then a else if i=a then b else i):=fun i hi=>by
   split
   ·exact ⟨a,hal,rfl,rfl⟩
   ·split
    ·exact ⟨b,hbl,rfl,rfl⟩
    ·exact ⟨i,hi,rfl,rfl⟩
  obtain ⟨s,hs,e1,e1'⟩:=pick i hi;obtain ⟨t,ht,e2,e2'⟩:=pick j hj;rw [e1] at hk;rw [e2] at hk2;refine h.rows.apart' (i:=s) (j:=t) ?_ hs ht hk hk2;rw [e1',e2']
  split <;> split <;> (try split) <;> (try split) <;> omega
theorem bj.grownV {w w':World} {base base':Nat} {v:Value} {vs:List Value} {L:List (List Int)} (h:bj w base vs L) {us:List Value} (hv:OwnV w base' v us) (hg:w.grownBy w' v.ownBlock):bj w' base vs L :=
 h.keep fun i k hi hk=>hg.block k ((h.row i hi).lt k hk).2 fun e=>(h.row i hi).apart hv k hk e.symm
theorem dD.at' {w:World} {G N cap:Nat} {L:List (List Int)} (h:dD w (some ⟨G,0,none⟩) N cap L) {k:Nat} (hk:k<N) :
 ∃ a m c,w.cell? ⟨G,k,none⟩=some (.slice a m c)/\Ints w a m c (L[k]?.getD []):=by
 obtain ⟨b,off,a,m,c,he,hc,hr⟩:=h.at hk;simp only [Option.some.injEq,Addr.mk.injEq,and_true] at he;obtain ⟨rfl,rfl⟩:=he;rw [Nat.zero_add] at hc;exact ⟨a,m,c,hc,hr⟩
theorem dD.dropIf {w:World} {G N cap:Nat} {L:List (List Int)} (h:dD w (some ⟨G,0,none⟩) N cap L) {d:Nat} (hd:d<=N):dD w (if cap=d then some ⟨G,0,none⟩ else some ⟨G,d,none⟩) (N-d) (cap-d) (L.drop d):=by
 refine ⟨by rw [List.length_drop,h.hlen],by have:=h.hcap;omega,by have:=h.hmax;omega,fun k hk=>?_⟩;have hc:¬ cap=d:=by have:=h.hcap;omega
 rw [if_neg hc];refine ⟨G,d,rfl,fun k hk=>?_⟩;obtain ⟨a,m,c,h1,h2⟩:=h.at' (k:=d+k) (by omega);refine ⟨a,m,c,h1,?_⟩;rw [List.getElem?_drop];exact h2
structure Enc (α:Type) where
 enc:α->List Value
 c:Nat
 hc:∀ x,(enc x).length=c
 pos:0<c
 one:∀ x,∀ u ∈ enc x,u.oneCell'=true
def Enc.all {α:Type} (E:Enc α) (l:List α):List Value:=l.flatMap E.enc
theorem Enc.all_append {α:Type} (E:Enc α) (l l':List α):E.all (l++l')=E.all l++E.all l':=by simp [Enc.all]
theorem Enc.all_cons {α:Type} (E:Enc α) (x:α) (l:List α):E.all (x :: l)=E.enc x++E.all l:=by simp [Enc.all]
theorem Enc.all_len {α:Type} (E:Enc α):∀ l:List α,(E.all l).length=l.length*E.c
 | []=>by simp [Enc.all]
 | x :: l=>by rw [E.all_cons,List.length_append,E.hc,E.all_len l,List.length_cons,Nat.succ_mul,Nat.add_comm]
theorem Enc.all_at {α:Type} (E:Enc α):∀ {l:List α} {k j:Nat} {x:α} {v:Value},l[k]?=some x->(E.enc x)[j]?=some v->(E.all l)[k*E.c+j]?=some v
 | [],k,j,x,v,h,_=>by simp at h
 | y :: l,0,j,x,v,h,hj=>by
   simp only [List.getElem?_cons_zero,Option.some.injEq] at h;subst h;have hl:=(List.getElem?_eq_some_iff.1 hj).1;rw [E.all_cons,Nat.zero_mul,Nat.zero_add,List.getElem?_append_left hl,hj]
 | y :: l,k+1,j,x,v,h,hj=>by
   simp only [List.getElem?_cons_succ] at h;rw [E.all_cons,List.getElem?_append_right (by rw [E.hc,Nat.succ_mul];omega),E.hc];rw [show (k+1)*E.c+j-E.c=k*E.c+j by rw [Nat.succ_mul];omega];exact E.all_at h hj
theorem Enc.all_one {α:Type} (E:Enc α) (l:List α):∀ u ∈ E.all l,u.oneCell'=true:=by
 intro u hu;obtain ⟨x,_,hx⟩:=List.mem_flatMap.1 hu;exact E.one x u hx
theorem Enc.split {α:Type} (E:Enc α) {l:List α} {i:Nat} {u:Value} (h:(E.all l)[i]?=some u):∃ k j x,i=k*E.c+j/\l[k]?=some x/\(E.enc x)[j]?=some u:=by
 have hi:i<l.length*E.c:=by have:=(List.getElem?_eq_some_iff.1 h).1;rwa [E.all_len] at this
 have hp:=E.pos;have hk:i / E.c<l.length:=(Nat.div_lt_iff_lt_mul hp).2 hi;have hm:i % E.c<E.c:=Nat.mod_lt _ hp;have he:i=i / E.c*E.c+i % E.c:=by rw [Nat.mul_comm];exact (Nat.div_add_mod i E.c).symm
 refine ⟨i / E.c,i % E.c,l[i / E.c],he,List.getElem?_eq_getElem hk,?_⟩;have hj:i % E.c<(E.enc l[i / E.c]).length:=by rw [E.hc];exact hm
 have:=E.all_at (List.getElem?_eq_getElem hk) (List.getElem?_eq_getElem hj);rw [<-he,h] at this;rw [List.getElem?_eq_getElem hj,this]
structure Slc {α:Type} (E:Enc α) (w:World) (a:Option Addr) (n cap:Nat) (l:List α):Prop where
 hlen:l.length=n
 hcap:n<=cap
 hmax:cap<=9223372036854775807
 cell:∀ k,k<n->∃ b off,a=some ⟨b,off,none⟩/\∀ k x j v,l[k]?=some x->(E.enc x)[j]?=some v->w.cell? ⟨b,off+k*E.c+j,none⟩=some v
theorem Slc.ext {α:Type} {E:Enc α} {w w':World} {a:Option Addr} {n cap:Nat} {l:List α} (h:Slc E w a n cap l) (hx:Ext w w'):Slc E w' a n cap l :=
 ⟨h.hlen,h.hcap,h.hmax,fun k hk=>let ⟨b,off,e,hc⟩:=h.cell k hk;⟨b,off,e,fun k x j v h1 h2=>hx.cellSome (hc k x j v h1 h2)⟩⟩
theorem Slc.at {α:Type} {E:Enc α} {w:World} {a:Option Addr} {n cap:Nat} {l:List α} (h:Slc E w a n cap l) {k:Nat} (hk:k<n) :
 ∃ b off x,a=some ⟨b,off,none⟩/\l[k]?=some x/\∀ j v,(E.enc x)[j]?=some v->w.cell? ⟨b,off+k*E.c+j,none⟩=some v :=
 let ⟨b,off,e,hc⟩:=h.cell k hk
 have hl:k<l.length:=by rw [h.hlen];exact hk
 ⟨b,off,l[k],e,List.getElem?_eq_getElem hl,fun j v hj=>hc k _ j v (List.getElem?_eq_getElem hl) hj⟩
theorem fD {α:Type} {l:List α} {k:Nat} {x:α} (h:l[k]?=some x):l.take (k+1)=l.take k++[x]:=by
 obtain ⟨hk,rfl⟩:=List.getElem?_eq_some_iff.1 h;rw [List.take_succ_eq_append_getElem hk]
def OwnG {α:Type} (E:Enc α) (t:TypeId) (w:World) (base:Nat) (v:Value) (l:List α):Prop:=w.ownsRow base t E.c v l.length (E.all l)
section
variable {α:Type} {E:Enc α} {t:TypeId} {w:World} {base:Nat} {l:List α}
theorem OwnG.form {v:Value} (h:OwnG E t w base v l):∃ a cap,v=.slice a l.length cap/\l.length<=cap/\cap<=9223372036854775807:=by
 rcases h.2 with ⟨rfl,h0⟩|⟨g,cap,cur,rfl,_,_,h1,h2,_⟩
 ·exact ⟨none,0,by rw [h0],by omega,by omega⟩
 ·exact ⟨_,cap,rfl,h1,by simpa [maxLen] using h2⟩
theorem OwnG.var {v:Value} (h:OwnG E t w base v l):∃ a n cap,v=.slice a n cap/\Hid (l.length=n):=by
 obtain ⟨a,cap,e,_⟩:=h.form;exact ⟨a,_,cap,e,rfl⟩
theorem OwnG.slc {a:Option Addr} {n cap:Nat} (h:OwnG E t w base (.slice a n cap) l):Slc E w a n cap l:=by
 rcases h.2 with ⟨he,h0⟩|⟨g,cap',cur,he,_,hg,h1,h2,hs,ht⟩
 ·simp only [Value.slice.injEq] at he;obtain ⟨rfl,rfl,rfl⟩:=he;exact ⟨h0,Nat.le_refl _,by omega,fun k hk=>absurd hk (by omega)⟩
 ·simp only [Value.slice.injEq] at he;obtain ⟨rfl,rfl,rfl⟩:=he;refine ⟨rfl,h1,by simpa [maxLen] using h2,fun k hk=>⟨g,0,rfl,fun k x j v hx hv=>?_⟩⟩;rw [Nat.zero_add,cell_of_row w g _ cur _ (0,0) hg];have q:=E.all_at hx hv;rw [<-ht,List.getElem?_take] at q
  split at q
  ·simpa using q
  ·cases q
theorem OwnG.lt {v:Value} (h:OwnG E t w base v l):∀ k,v.ownBlock=some k->base<=k/\k<w.heap.size:=World.ownsRow.lt h
theorem OwnG.keep {w':World} {v:Value} (h:OwnG E t w base v l) (hk:∀ k,v.ownBlock=some k->w'.heap[k]?=w.heap[k]?):OwnG E t w' base v l:=by
 refine ⟨h.1,?_⟩
 rcases h.2 with hn|⟨g,cap,cur,rfl,hb,hgg,rest⟩
 ·exact .inl hn
 ·exact .inr ⟨g,cap,cur,rfl,hb,(hk g rfl).trans hgg,rest⟩
theorem OwnG.ext {w':World} {v:Value} (h:OwnG E t w base v l) (hx:Ext w w'):OwnG E t w' base v l:=h.keep fun k hk=>hx.block k (h.lt k hk).2
theorem OwnG.mono {base':Nat} {v:Value} (h:OwnG E t w base v l) (hb:base'<=base):OwnG E t w base' v l:=by
 refine ⟨h.1,?_⟩
 rcases h.2 with hn|⟨g,cap,cur,rfl,hbb,rest⟩
 ·exact .inl hn
 ·exact .inr ⟨g,cap,cur,rfl,by omega,rest⟩
theorem OwnG.nil (E:Enc α) (t:TypeId) (w:World) (base:Nat):OwnG E t w base (.slice none 0 0) []:=World.ownsRow_nil w base t _
theorem OwnG.madeS (E:Enc α) (t:TypeId) (W:World) (base:Nat) (n:Nat) (hn:n=W.heap.size) (hb:base<=W.heap.size):OwnG E t (W.alloc (.cells #[] t)) base (.slice (some ⟨n,0,none⟩) 0 0) []:=by
 subst hn;exact World.ownsRow_lit W #[] 0 hb (by omega) (by simp)
theorem OwnG.lit (E:Enc α) (t:TypeId) (W:World) (base:Nat) (l:List α) (cs:Array Value) (hcs:cs=(E.all l).toArray) (n:Nat) (hn:n=W.heap.size) (hb:base<=W.heap.size) (hm:l.length<=1099511627776):OwnG E t (W.alloc (.cells cs t)) base (.slice (some ⟨n,0,none⟩) l.length l.length) l:=by
 subst hn hcs;refine ⟨E.all_len l,.inr ⟨_,l.length,(E.all l).toArray,rfl,hb,heap_alloc_new W _,Nat.le_refl _,by simp [maxLen];omega,by simp [E.all_len],?_⟩⟩
 show List.take _ (E.all l)=_;exact List.take_of_length_le (by rw [E.all_len];exact Nat.le_refl _)
theorem au {w:World} {base base':Nat} {e e':TypeId} {s s':Nat} {v v':Value} {n n':Nat} {xs xs':List Value} (hne:e ≠ e') (h:w.ownsRow base e s v n xs) (h':w.ownsRow base' e' s' v' n' xs'):∀ k,v.ownBlock=some k->v'.ownBlock ≠ some k:=by
 intro k hk hk'
 rcases h.2 with ⟨rfl,_⟩|⟨g,cap,cur,rfl,_,hg,_⟩
 ·simp [Value.ownBlock] at hk
 ·rcases h'.2 with ⟨rfl,_⟩|⟨g',cap',cur',rfl,_,hg',_⟩
  ·simp [Value.ownBlock] at hk'
  ·simp only [Value.ownBlock,Option.some.injEq] at hk hk';subst hk hk';rw [hg] at hg';simp only [Option.some.injEq,Obj.cells.injEq] at hg';exact hne hg'.2.1
theorem an {w:World} {base g:Nat} {e e':TypeId} {s:Nat} {v:Value} {n:Nat} {xs:List Value} {c:Array Value} {z:Nat × Nat} (h:w.ownsRow base e s v n xs) (hb:w.heap[g]?=some (.cells c e' z)) (hne:e ≠ e'):some g ≠ v.ownBlock:=by
 intro hk
 rcases h.2 with ⟨rfl,_⟩|⟨g',cap,cur,rfl,_,hg,_⟩
 ·simp [Value.ownBlock] at hk
 ·simp only [Value.ownBlock,Option.some.injEq] at hk;subst hk;rw [hg] at hb;simp only [Option.some.injEq,Obj.cells.injEq] at hb;exact hne hb.2.1
theorem Slc.lit (E:Enc α) (t:TypeId) (W:World) (l:List α) (m:Nat) (hm:l.length=m) (cs:Array Value) (hcs:cs=(E.all l).toArray) (n:Nat) (hn:n=W.heap.size) (hb:m<=1099511627776):Slc E (W.alloc (.cells cs t)) (some ⟨n,0,none⟩) m m l:=by
 subst hm;exact (OwnG.lit E t W 0 l cs hcs n hn (Nat.zero_le _) hb).slc
end
section
variable {α:Type} {E:Enc α} {t:TypeId} {P:Program} {w:World} {ops:Array Oper} {rest:List Oper} {o:Oper} {a:Act} {Q:Exit->Act->World->Prop}
theorem ew {K:Act->World->Prop} {ts:TypeId} {z:Value} {bytes:Nat} (E:Enc α) (hinf:(P.info? t).map (fun i=>(i.zero,i.size,i.bytes))=some (some z,E.c,bytes)) (hz:z.cells.size=E.c) (ht:P.underlying ts=some (.slice t)) (hby:bytes<=64)
 (s x:Operand) (ho:o.op=.call { callee:=.builtin .append,args:=#[s,x],argTypes:=#[ts,ts] })
 (base:Nat) (v:Value) (l:List α) (hs:a.eval s=v) (hown:OwnG E t w base v l) (ao:Option Addr) (m c:Nat) (l':List α) (hx:a.eval x=.slice ao m c) (hi':Slc E w ao m c l') (hb:l.length+m<=1099511627776) (hbase:base<=w.heap.size)
 (h:∀ v' w',OwnG E t w' base v' (l++l')->w.grownBy w' v.ownBlock->Near w v v'->K (a.put o.dst v') w'):o.wp P a w K Q:=by
 obtain ⟨i,hi,hz0,hz1,hz2⟩:∃ i,P.info? t=some i/\i.zero=some z/\i.size=E.c/\i.bytes=bytes:=by
  cases hq:P.info? t with
  | none=>rw [hq] at hinf;simp at hinf
  | some i=>rw [hq] at hinf;simp at hinf;exact ⟨i,rfl,hinf.1,hinf.2.1,hinf.2.2⟩
 cases ao with
 | none =>
   have hm:m=0:=by
    rcases Nat.eq_zero_or_pos m with h0|h0
    ·exact h0
    ·obtain ⟨b,off,e,_⟩:=hi'.cell 0 h0;cases e
   subst hm;have hl:l'=[]:=List.eq_nil_of_length_eq_zero hi'.hlen;subst hl;refine es w s x ts ho base t i E.c ht hi v l.length _ hs hown c hx ?_;exact h v w (by simpa using hown) (World.grownBy.refl _ _) (Near.refl _ _)
 | some ad =>
   refine dN w s x ts ho base t i z E.c bytes ht hi hz0 hz1 hz2 hz E.pos v l.length (E.all l) hs hown ad m c (E.all l') hx (by rw [E.all_len,hi'.hlen]) ?_ (E.all_one l') (by simp [maxLen];omega) (by have:=Nat.mul_le_mul hb hby;omega) hbase ?_
   ·intro i u hu;obtain ⟨k,j,y,he,hk,hj⟩:=E.split hu;have hkl:k<m:=by rw [<-hi'.hlen];exact (List.getElem?_eq_some_iff.1 hk).1
    obtain ⟨b,off,e,hc⟩:=hi'.cell k hkl;simp only [Option.some.injEq] at e;subst e;have ha:∀ k,(⟨b,off,none⟩:Addr).add k=⟨b,off+k,none⟩:=fun k=>by unfold Addr.add;split <;> simp_all
    rw [ha,he,<-Nat.add_assoc];exact hc k y j u hk hj
   ·intro v' w' h1 h2 h3;refine h v' w' ?_ h2 h3;unfold OwnG;rw [List.length_append,hi'.hlen,E.all_append];exact h1
theorem lE {ts:TypeId} {z:Value} {bytes:Nat} (E:Enc α) (hinf:(P.info? t).map (fun i=>(i.zero,i.size,i.bytes))=some (some z,E.c,bytes)) (hz:z.cells.size=E.c) (ht:P.underlying ts=some (.slice t)) (hby:bytes<=64) (hgd:o.guard=none)
 (s x:Operand) (ho:o.op=.call { callee:=.builtin .append,args:=#[s,x],argTypes:=#[ts,ts] })
 (base:Nat) (v:Value) (l:List α) (hs:a.eval s=v) (hown:OwnG E t w base v l) (ao:Option Addr) (m c:Nat) (l':List α) (hx:a.eval x=.slice ao m c) (hi':Slc E w ao m c l') (hb:l.length+m<=1099511627776) (hbase:base<=w.heap.size)
 (h:∀ v' w',OwnG E t w' base v' (l++l')->w.grownBy w' v.ownBlock->Near w v v'->wpList P ops Q rest (a.put o.dst v') w'):wpList P ops Q (o :: rest) a w :=
 wpList_plain hgd fun _ hK=>ew E hinf hz ht hby s x ho base v l hs hown ao m c l' hx hi' hb hbase fun v' w' h1 h2 h3=>hK _ _ (h v' w' h1 h2 h3)
end
end Go.Proofs.YthjjfkeacobikaaGreat
namespace Go.Proofs.YthjjfkeacobikaaGreat
open Go.RowKit
theorem Ext.store {w w':World} (h:Ext w w') {b:Nat} (k:Nat) (hb:w.heap.size<=b) (v:Value):Ext w (w'.setCell ⟨b,k,none⟩ v):=Below.setCell h (p:=⟨b,k,none⟩) hb v
theorem Ext.grown {w0 w w':World} {row:Option Nat} (h:Ext w0 w) (hg:w.grownBy w' row) (hr:∀ k,row=some k->w0.heap.size<=k):Ext w0 w':=aq h hg hr
def OffV (vs:List Value) (v:Value):Prop:=∀ i k,i<vs.length->(vs[i]?.getD undef).ownBlock=some k->v.ownBlock ≠ some k
theorem OffV.nil (v:Value):OffV [] v:=fun i k h=>absurd h (by simp)
theorem OffV.near {w:World} {base:Nat} {vs:List Value} {A:List (List Int)} {v v':Value} (h:OffV vs v) (hr:bj w base vs A) (hn:Near w v v'):OffV vs v':=by
 intro i k hi hk hk'
 rcases hn k hk' with h1|h1
 ·exact h i k hi hk h1
 ·have:=((hr.row i (by rw [<-hr.len];exact hi)).lt k hk).2;omega
theorem OffV.snoc {w w':World} {base:Nat} {vs:List Value} {B r:List Int} {v vr:Value} (h:OffV vs v) (hb:OwnI w base v B) (hr:OwnI w' w.heap.size vr r):OffV (vs++[vr]) v:=by
 intro i k hi hk hk';by_cases hl:i<vs.length
 ·rw [List.getElem?_append_left hl] at hk;exact h i k hl hk hk'
 ·have hie:i=vs.length:=by simp at hi;omega
  subst hie;rw [List.getElem?_concat_length,Option.getD_some] at hk;have h1:=(hb.lt k hk').2;have h2:=(hr.lt k hk).1;omega
structure LpO (w:World) (base g:Nat) (va vb vc:Value) (vs:List Value) (A:List (List Int)) (B:List Int) (C:List (Int × Int)):Prop where
 box:w.heap[g]?=some (.cells #[va,vb,vc] 109 (0,0))
 hg:base<=g
 a:OwnV w base va vs
 rows:bj w base vs A
 b:OwnI w base vb B
 off:OffV vs vb
 c:OwnR w base vc C
section
variable {w:World} {base g:Nat} {va vb vc:Value} {vs:List Value} {A:List (List Int)} {B:List Int} {C:List (Int × Int)}
theorem LpO.lt (h:LpO w base g va vb vc vs A B C):g<w.heap.size:=lt_of_block h.box
theorem LpO.ext {w':World} (h:LpO w base g va vb vc vs A B C) (hx:Ext w w'):LpO w' base g va vb vc vs A B C :=
 ⟨(hx.block _ h.lt).trans h.box,h.hg,h.a.ext hx,h.rows.ext hx,h.b.ext hx,h.off,h.c.ext hx⟩
theorem LpO.c0 (h:LpO w base g va vb vc vs A B C):w.cell? ⟨g,0,none⟩=some va:=by rw [cell_of_row w g 0 _ _ _ h.box];rfl
theorem LpO.c1 (h:LpO w base g va vb vc vs A B C):w.cell? ⟨g,1,none⟩=some vb:=by rw [cell_of_row w g 1 _ _ _ h.box];rfl
theorem LpO.c2 (h:LpO w base g va vb vc vs A B C):w.cell? ⟨g,2,none⟩=some vc:=by rw [cell_of_row w g 2 _ _ _ h.box];rfl
theorem LpO.new {w:World} {base:Nat} (hb:base<=w.heap.size):LpO (w.alloc (.cells #[.slice none 0 0,.slice none 0 0,.slice none 0 0] 109)) base w.heap.size (.slice none 0 0) (.slice none 0 0) (.slice none 0 0) [] [] [] [] :=
 ⟨heap_alloc_new _ _,hb,OwnV.nil _ _,bj.nil _ _,OwnI.nil _ _,OffV.nil _,OwnR.nil _ _⟩
theorem LpO.boxc0 {x y z:Value} (h:w.heap[g]?=some (.cells #[x,y,z] 109 (0,0))):w.cell? ⟨g,0,none⟩=some x:=by rw [cell_of_row w g 0 _ _ _ h];rfl
theorem LpO.boxc1 {x y z:Value} (h:w.heap[g]?=some (.cells #[x,y,z] 109 (0,0))):w.cell? ⟨g,1,none⟩=some y:=by rw [cell_of_row w g 1 _ _ _ h];rfl
theorem LpO.boxc2 {x y z:Value} (h:w.heap[g]?=some (.cells #[x,y,z] 109 (0,0))):w.cell? ⟨g,2,none⟩=some z:=by rw [cell_of_row w g 2 _ _ _ h];rfl
theorem LpO.boxf {x y z:Value} (h:w.heap[g]?=some (.cells #[x,y,z] 109 (0,0))) (k:Nat):w.frozen? ⟨g,k,none⟩=false:=frozen_of_row w g k _ _ h
theorem LpO.neA (h:LpO w base g va vb vc vs A B C):some g ≠ va.ownBlock:=an h.a h.box (by decide)
theorem LpO.neB (h:LpO w base g va vb vc vs A B C):some g ≠ vb.ownBlock:=an h.b h.box (by decide)
theorem LpO.neC (h:LpO w base g va vb vc vs A B C):some g ≠ vc.ownBlock:=an h.c h.box (by decide)
theorem LpO.neR (h:LpO w base g va vb vc vs A B C) {i:Nat} (hi:i<A.length):some g ≠ (vs[i]?.getD undef).ownBlock:=an (h.rows.row i hi) h.box (by decide)
theorem LpO.store {w w':World} {k:Nat} {v:Value} (hb:w.heap[g]?=some (.cells #[va,vb,vc] 109 (0,0))):(w.setCell ⟨g,k,none⟩ v).heap[g]?=some (.cells (#[va,vb,vc].setIfInBounds k v) 109 (0,0)):=heap_setCell_same w g k _ _ v hb
theorem LpO.pushA {w1 w2:World} (h:LpO w base g va vb vc vs A B C) (hx:Ext w w1) {vr va':Value} {r:List Int} (hr:OwnI w1 w.heap.size vr r) (hbs:base<=w.heap.size) (hgr:w1.grownBy w2 va.ownBlock) (ho:OwnV w2 base va' (vs++[vr])) (hn:Near w1 va va') :
 LpO (w2.setCell ⟨g,0,none⟩ va') base g va' vb vc (vs++[vr]) (A++[r]) B C:=by
 have h1:=h.ext hx;have hbox:w2.heap[g]?=some (.cells #[va,vb,vc] 109 (0,0)):=(hgr.block g h1.lt h1.neA).trans h1.box;have hset:∀ k,k ≠ g->(w2.setCell ⟨g,0,none⟩ va').heap[k]?=w2.heap[k]?:=fun k hk=>heap_setCell_other _ _ _ _ hk
 have hB2:OwnI w2 base vb B:=h1.b.keep fun k hk=>hgr.block k (h1.b.lt k hk).2 fun e=>h1.b.apart h1.a k hk e.symm
 have hC2:OwnR w2 base vc C:=h1.c.keep fun k hk=>hgr.block k (h1.c.lt k hk).2 fun e=>au (by decide) h1.c h1.a k hk e.symm
 have hR1:bj w1 base (vs++[vr]) (A++[r]):=h.rows.snoc hx hr hbs;have hR2:bj w2 base (vs++[vr]) (A++[r]):=hR1.keep fun i k hi hk=>hgr.block k ((hR1.row i hi).lt k hk).2 fun e=>(hR1.row i hi).apart h1.a k hk e.symm
 refine ⟨?_,h.hg,?_,?_,?_,h.off.snoc h.b hr,?_⟩
 ·have:=LpO.store (w:=w2) (w':=w2) (k:=0) (v:=va') hbox;exact this
 ·exact ho.keep fun k hk=>hset k fun e=>(an ho hbox (by decide)) (by rw [hk,e])
 ·exact hR2.keep fun i k hi hk=>hset k fun e=>(an (hR2.row i hi) hbox (by decide)) (by rw [hk,e])
 ·exact hB2.keep fun k hk=>hset k fun e=>(an hB2 hbox (by decide)) (by rw [hk,e])
 ·exact hC2.keep fun k hk=>hset k fun e=>(an hC2 hbox (by decide)) (by rw [hk,e])
theorem LpO.pushB {w1 w2:World} (h:LpO w base g va vb vc vs A B C) (hx:Ext w w1) {vb':Value} {B':List Int} (hgr:w1.grownBy w2 vb.ownBlock) (ho:OwnI w2 base vb' B') (hn:Near w1 vb vb') :
 LpO (w2.setCell ⟨g,1,none⟩ vb') base g va vb' vc vs A B' C:=by
 have h1:=h.ext hx;have hbox:w2.heap[g]?=some (.cells #[va,vb,vc] 109 (0,0)):=(hgr.block g h1.lt h1.neB).trans h1.box;have hset:∀ k,k ≠ g->(w2.setCell ⟨g,1,none⟩ vb').heap[k]?=w2.heap[k]?:=fun k hk=>heap_setCell_other _ _ _ _ hk
 have hA2:OwnV w2 base va vs:=h1.a.keep fun k hk=>hgr.block k (h1.a.lt k hk).2 fun e=>h1.b.apart h1.a k e.symm hk
 have hC2:OwnR w2 base vc C:=h1.c.keep fun k hk=>hgr.block k (h1.c.lt k hk).2 fun e=>au (by decide) h1.c h1.b k hk e.symm
 have hR2:bj w2 base vs A:=h1.rows.keep fun i k hi hk=>hgr.block k ((h1.rows.row i hi).lt k hk).2 fun e=>h1.off i k (by rw [h1.rows.len];exact hi) hk e.symm
 refine ⟨?_,h.hg,?_,?_,?_,h1.off.near h1.rows hn,?_⟩
 ·have:=LpO.store (w:=w2) (w':=w2) (k:=1) (v:=vb') hbox;exact this
 ·exact hA2.keep fun k hk=>hset k fun e=>(an hA2 hbox (by decide)) (by rw [hk,e])
 ·exact hR2.keep fun i k hi hk=>hset k fun e=>(an (hR2.row i hi) hbox (by decide)) (by rw [hk,e])
 ·exact ho.keep fun k hk=>hset k fun e=>(an ho hbox (by decide)) (by rw [hk,e])
 ·exact hC2.keep fun k hk=>hset k fun e=>(an hC2 hbox (by decide)) (by rw [hk,e])
theorem LpO.pushC {w1 w2:World} (h:LpO w base g va vb vc vs A B C) (hx:Ext w w1) {vc':Value} {C':List (Int × Int)} (hgr:w1.grownBy w2 vc.ownBlock) (ho:OwnR w2 base vc' C') :
 LpO (w2.setCell ⟨g,2,none⟩ vc') base g va vb vc' vs A B C':=by
 have h1:=h.ext hx;have hbox:w2.heap[g]?=some (.cells #[va,vb,vc] 109 (0,0)):=(hgr.block g h1.lt h1.neC).trans h1.box;have hset:∀ k,k ≠ g->(w2.setCell ⟨g,2,none⟩ vc').heap[k]?=w2.heap[k]?:=fun k hk=>heap_setCell_other _ _ _ _ hk
 have hA2:OwnV w2 base va vs:=h1.a.keep fun k hk=>hgr.block k (h1.a.lt k hk).2 fun e=>au (by decide) h1.a h1.c k hk e.symm
 have hB2:OwnI w2 base vb B:=h1.b.keep fun k hk=>hgr.block k (h1.b.lt k hk).2 fun e=>au (by decide) h1.b h1.c k hk e.symm
 have hR2:bj w2 base vs A:=h1.rows.keep fun i k hi hk=>hgr.block k ((h1.rows.row i hi).lt k hk).2 fun e=>au (by decide) (h1.rows.row i hi) h1.c k hk e.symm
 refine ⟨?_,h.hg,?_,?_,?_,h.off,?_⟩
 ·have:=LpO.store (w:=w2) (w':=w2) (k:=2) (v:=vc') hbox;exact this
 ·exact hA2.keep fun k hk=>hset k fun e=>(an hA2 hbox (by decide)) (by rw [hk,e])
 ·exact hR2.keep fun i k hi hk=>hset k fun e=>(an (hR2.row i hi) hbox (by decide)) (by rw [hk,e])
 ·exact hB2.keep fun k hk=>hset k fun e=>(an hB2 hbox (by decide)) (by rw [hk,e])
 ·exact ho.keep fun k hk=>hset k fun e=>(an ho hbox (by decide)) (by rw [hk,e])
theorem bO {w w2:World} {b1 b2:Nat} {e e':TypeId} {s s' n n':Nat} {v v':Value} {xs xs':List Value} (h:w.ownsRow b1 e s v n xs) (h':w.ownsRow b2 e' s' v' n' xs') (hne:e ≠ e') (hgr:w.grownBy w2 v'.ownBlock):w2.ownsRow b1 e s v n xs :=
 h.kept hgr (by
  cases hv:v.ownBlock with
  | none=>exact .inl rfl
  | some k=>exact .inr fun e2=>au hne h h' k hv e2.symm)
theorem dz {w:World} {b1 g k:Nat} {e e':TypeId} {s n:Nat} {v u:Value} {xs:List Value} {c:Array Value} {z:Nat × Nat} (h:w.ownsRow b1 e s v n xs) (hb:w.heap[g]?=some (.cells c e' z)) (hne:e ≠ e'):(w.setCell ⟨g,k,none⟩ u).ownsRow b1 e s v n xs:=by
 refine ⟨h.1,?_⟩
 rcases h.2 with hn|⟨g',cap,cur,rfl,hbb,hgg,rest⟩
 ·exact .inl hn
 ·refine .inr ⟨g',cap,cur,rfl,hbb,?_,rest⟩;rw [heap_setCell_other _ _ _ _ fun e2=>by subst e2;exact an h hb hne rfl];exact hgg
theorem LpO.boxA {w1 w2:World} (h:LpO w base g va vb vc vs A B C) (hx:Ext w w1) (hg:w1.grownBy w2 va.ownBlock):w2.heap[g]?=some (.cells #[va,vb,vc] 109 (0,0)):=(hg.block g (h.ext hx).lt (h.ext hx).neA).trans (h.ext hx).box
theorem LpO.boxB {w1 w2:World} (h:LpO w base g va vb vc vs A B C) (hx:Ext w w1) (hg:w1.grownBy w2 vb.ownBlock):w2.heap[g]?=some (.cells #[va,vb,vc] 109 (0,0)):=(hg.block g (h.ext hx).lt (h.ext hx).neB).trans (h.ext hx).box
theorem LpO.boxC {w1 w2:World} (h:LpO w base g va vb vc vs A B C) (hx:Ext w w1) (hg:w1.grownBy w2 vc.ownBlock):w2.heap[g]?=some (.cells #[va,vb,vc] 109 (0,0)):=(hg.block g (h.ext hx).lt (h.ext hx).neC).trans (h.ext hx).box
theorem OwnG.grownV {α:Type} {E:Enc α} {t:TypeId} {w w1 w2:World} {b1 b2:Nat} {v v':Value} {l:List α} {us:List Value} (h:OwnG E t w b1 v l) (hx:Ext w w1) (h':OwnV w b2 v' us) (hne:t ≠ 24) (hgr:w1.grownBy w2 v'.ownBlock):OwnG E t w2 b1 v l :=
 bO (h.ext hx) (h'.ext hx) hne hgr
theorem OwnG.grownI {α:Type} {E:Enc α} {t:TypeId} {w w1 w2:World} {b1 b2:Nat} {v v':Value} {l:List α} {us:List Int} (h:OwnG E t w b1 v l) (hx:Ext w w1) (h':OwnI w b2 v' us) (hne:t ≠ 3) (hgr:w1.grownBy w2 v'.ownBlock):OwnG E t w2 b1 v l :=
 bO (h.ext hx) (h'.ext hx) hne hgr
theorem OwnG.grownR {α:Type} {E:Enc α} {t:TypeId} {w w1 w2:World} {b1 b2:Nat} {v v':Value} {l:List α} {us:List (Int × Int)} (h:OwnG E t w b1 v l) (hx:Ext w w1) (h':OwnR w b2 v' us) (hne:t ≠ 43) (hgr:w1.grownBy w2 v'.ownBlock):OwnG E t w2 b1 v l :=
 bO (h.ext hx) (h'.ext hx) hne hgr
theorem OwnG.setLp {α:Type} {E:Enc α} {t:TypeId} {w:World} {b1 g:Nat} {v x y z:Value} {l:List α} (h:OwnG E t w b1 v l) (hb:w.heap[g]?=some (.cells #[x,y,z] 109 (0,0))) (hne:t ≠ 109) (k:Nat) (u:Value):OwnG E t (w.setCell ⟨g,k,none⟩ u) b1 v l :=
 dz h hb hne
end
theorem OwnV.mono' {w:World} {base base':Nat} {v:Value} {vs:List Value} (h:OwnV w base v vs) (hb:base'<=base):OwnV w base' v vs:=by
 refine ⟨h.1,?_⟩
 rcases h.2 with hn|⟨g,cap,cur,rfl,hbb,rest⟩
 ·exact .inl hn
 ·exact .inr ⟨g,cap,cur,rfl,by omega,rest⟩
theorem OwnI.keptR {w w1 w2:World} {b1 b2:Nat} {v v':Value} {l:List Int} {us:List (Int × Int)} (h:OwnI w b1 v l) (hx:Ext w w1) (h':OwnR w b2 v' us) (hgr:w1.grownBy w2 v'.ownBlock):OwnI w2 b1 v l :=
 bO (h.ext hx) (h'.ext hx) (by decide) hgr
theorem OwnR.keptI {w w1 w2:World} {b1 b2:Nat} {v v':Value} {l:List (Int × Int)} {us:List Int} (h:OwnR w b1 v l) (hx:Ext w w1) (h':OwnI w b2 v' us) (hgr:w1.grownBy w2 v'.ownBlock):OwnR w2 b1 v l :=
 bO (h.ext hx) (h'.ext hx) (by decide) hgr
theorem Ints.litM {W:World} (l:List Int) (t:TypeId) {m:Nat} (hm:l.length=m) {cs:Array Value} (hcs:cs=aW l) {n:Nat} (hn:n=W.heap.size) (hb:m<=1099511627776):Ints (W.alloc (.cells cs t)) (some ⟨n,0,none⟩) m m l:=by
 subst hn hcs;exact (show Row (W.alloc (.cells (aW l) t)) W.heap.size t l from heap_alloc_new W _).ints hm (Nat.le_refl _) (by omega)
theorem Rats.two (W:World) (x y x' y':Int) (t:TypeId) {n:Nat} (hn:n=W.heap.size):Rats (W.alloc (.cells #[.int .i64 x,.int .i64 y,.int .i64 x',.int .i64 y'] t)) (some ⟨n,0,none⟩) 2 2 [(x,y),(x',y')]:=by
 subst hn
 exact ⟨rfl,Nat.le_refl _,by omega,fun k hk=>⟨_,0,rfl,fun k hk=>by
  have:k=0 ∨ k=1:=by omega
  rcases this with rfl|rfl <;> simp⟩⟩
theorem bj.mono' {w:World} {base base':Nat} {vs:List Value} {L:List (List Int)} (h:bj w base vs L) (hb:base'<=base):bj w base' vs L:=⟨h.len,fun i hi=>(h.row i hi).mono hb,h.apart⟩
theorem Ext.blk {w w':World} (hx:Ext w w') {b:Nat} {o:Obj} (h:w.heap[b]?=some o):w'.heap[b]?=some o:=(hx.block b (lt_of_block h)).trans h
theorem gG {w:World} {b b':Nat} {c c':Array Value} {t t':TypeId} {z z':Nat × Nat} (h:w.heap[b]?=some (.cells c t z)) (h':w.heap[b']?=some (.cells c' t' z')) (hne:t ≠ t'):b ≠ b':=by
 intro e;subst e;rw [h] at h';simp only [Option.some.injEq,Obj.cells.injEq] at h';exact hne h'.2.1
end Go.Proofs.YthjjfkeacobikaaGreat
