import Derived.Test.YthjjfkeacobikaaGreatPuAllG3
import Derived.Test.YthjjfkeacobikaaGreatPuAllG6
import Derived.Test.YthjjfkeacobikaaGreatPuAllG10
set_option linter.unusedVariables false
set_option linter.unusedSimpArgs false
namespace Go.Proofs.YthjjfkeacobikaaGreat
def Fr (p:Int × Int) (x D:Int):Prop:=valR p=true/\0<D/\p.1*D=x*p.2
theorem hU {p:Int × Int} (h:valR p=true):gI p.1 p.2=1:=by
 simp only [valR,Bool.and_eq_true,decide_eq_true_eq] at h;exact h.2.2
theorem iJ {p:Int × Int} (h1:1<=p.2) (h2:p.2<=1000000000) (h3:-1000000000<=p.1) (h4:p.1<=1000000000) (h5:gI p.1 p.2=1):valR p=true:=by
 simp only [valR,inB,Bool.and_eq_true,decide_eq_true_eq];omega
theorem gH (a b:Int):gI a b=1 ↔ Nat.Coprime a.natAbs b.natAbs:=by unfold gI Int.gcd Nat.Coprime;omega
theorem mi {a b c d:Int} (hb:0<b) (hd:0<d) (h1:gI a b=1) (h2:gI c d=1) (h:a*d=c*b):a=c/\b=d:=by
 rw [gH] at h1 h2;have hn:a.natAbs*d.natAbs=c.natAbs*b.natAbs:=by rw [<-Int.natAbs_mul,<-Int.natAbs_mul,h]
 have e1:b.natAbs ∣ d.natAbs:=Nat.Coprime.dvd_of_dvd_mul_left h1.symm ⟨c.natAbs,by rw [hn,Nat.mul_comm]⟩;have e2:d.natAbs ∣ b.natAbs:=Nat.Coprime.dvd_of_dvd_mul_left h2.symm ⟨a.natAbs,by rw [<-hn,Nat.mul_comm]⟩;have e3:b=d:=by have:=Nat.dvd_antisymm e1 e2;omega
 subst e3;exact ⟨Int.eq_of_mul_eq_mul_right (by omega) h,rfl⟩
theorem Fr.eq {p q:Int × Int} {x D y E:Int} (h:Fr p x D) (k:Fr q y E) (e:x*E=y*D):p=q:=by
 obtain ⟨h1,h2,h3⟩:=h;obtain ⟨k1,k2,k3⟩:=k;have hb:=(bh h1).1;have kb:=(bh k1).1;have key:(p.1*q.2)*(D*E)=(q.1*p.2)*(D*E):=by grind
 have hDE:D*E ≠ 0:=Int.mul_ne_zero (by omega) (by omega);have:=mi (by omega) (by omega) (hU h1) (hU k1) (Int.eq_of_mul_eq_mul_right hDE key);exact Prod.ext this.1 this.2
theorem Fr.int (c:Int) (h:-1000000000<=c) (h':c<=1000000000):Fr (c,1) c 1 :=
 ⟨iJ (by simp) (by simp) h h' (by rw [gH];simp),by omega,rfl⟩
theorem Fr.self {p:Int × Int} (h:valR p=true):Fr p p.1 p.2:=⟨h,by have:=(bh h).1;omega,rfl⟩
theorem ja (n d:Int) (hd:0<d):1<=gI n d/\n=gI n d*n.tdiv (gI n d)/\d=gI n d*d.tdiv (gI n d)/\0<d.tdiv (gI n d):=by
 have hg:=ip n (show d ≠ 0 by omega);obtain ⟨k,hk⟩:=kp n d;obtain ⟨m,hm⟩:=iB n d;have h1:n.tdiv (gI n d)=k:=by
    conv=>lhs;arg 1;rw [hk]
    exact Int.mul_tdiv_cancel_left _ (by omega)
 have h2:d.tdiv (gI n d)=m:=by
    conv=>lhs;arg 1;rw [hm]
    exact Int.mul_tdiv_cancel_left _ (by omega)
 rw [h1,h2];refine ⟨hg,hk,hm,?_⟩
 rcases Int.lt_or_le 0 m with h|h
 ·exact h
 ·have:gI n d*m<=0:=Int.mul_nonpos_of_nonneg_of_nonpos (by omega) h;omega
theorem ln {n d:Int} (hd:0<d) (hn:-1000000000000000000<=n/\n<=1000000000000000000) (hd':d<=1000000000000000000):aD n d=cutR (n.tdiv (gI n d),d.tdiv (gI n d)):=by
 unfold aD;rw [if_neg (by simp [inB];omega),if_neg (by omega)]
theorem oL {n d x D:Int} (hd:0<d) (hD:0<D) (hn:-1000000000000000000<=n/\n<=1000000000000000000) (hd':d<=1000000000000000000) (hx:-1000000000000000000<=x/\x<=1000000000000000000) (hD':D<=1000000000000000000) (e:n*D=x*d):aD n d=aD x D:=by
 rw [ln hd hn hd',ln hD hx hD'];obtain ⟨g1,g2,g3,g4⟩:=ja n d hd;obtain ⟨k1,k2,k3,k4⟩:=ja x D hD;have key:(n.tdiv (gI n d)*D.tdiv (gI x D))*(gI n d*gI x D)=(x.tdiv (gI x D)*d.tdiv (gI n d))*(gI n d*gI x D):=by
  have a1:(n.tdiv (gI n d)*D.tdiv (gI x D))*(gI n d*gI x D)=(gI n d*n.tdiv (gI n d))*(gI x D*D.tdiv (gI x D)):=by grind
  have a2:(x.tdiv (gI x D)*d.tdiv (gI n d))*(gI n d*gI x D)=(gI x D*x.tdiv (gI x D))*(gI n d*d.tdiv (gI n d)):=by grind
  rw [a1,a2,<-g2,<-g3,<-k2,<-k3,e]
 have hne:gI n d*gI x D ≠ 0:=Int.mul_ne_zero (by omega) (by omega);have:=mi g4 k4 (io n d hd) (io x D hD) (Int.eq_of_mul_eq_mul_right hne key);rw [this.1,this.2]
theorem ji {n d:Int} (hd:0<d) (h:(aD n d).2=true):Fr (aD n d).1 n d:=by
 refine ⟨fg h,hd,?_⟩;unfold aD at h ⊢
 split at h
 ·simp at h
 ·next h0 =>
  rw [if_neg h0]
  split at h
  ·omega
  ·next h1 =>
   rw [if_neg h1];unfold cutR at h ⊢
   split at h
   ·next h2 =>
    rw [if_pos h2];obtain ⟨g1,g2,g3,g4⟩:=ja n d hd;simp only;generalize n.tdiv (gI n d)=k at *;generalize d.tdiv (gI n d)=m at *;generalize gI n d=g at *;subst g2;grind
   ·simp at h
theorem mt {n d x D:Int} (hd:0<d) (hn:-1000000000000000000<=n/\n<=1000000000000000000) (hd':d<=1000000000000000000) (hD:0<D) (hD':D<=1000000000) (hx:-1000000000<=x/\x<=1000000000) (e:n*D=x*d) :
 ∃ r,aD n d=(r,true)/\Fr r x D:=by
 have h1:=oL hd hD hn hd' (by omega) (by omega) e;have h2:=mv (n:=x) (d:=D) (by omega) hD' hx.1 hx.2;exact ⟨(aD x D).1,by rw [h1,<-h2],ji hD h2⟩
theorem bd18 {p q:Int} (h:-1000000000<=p/\p<=1000000000) (k:-1000000000<=q/\q<=1000000000):-1000000000000000000<=p*q/\p*q<=1000000000000000000:=mul_bd h.1 h.2 k.1 k.2
def val (r:Int × Int):Rat:=(r.1:Rat) / (r.2:Rat)
theorem dY {d:Int} (h:d ≠ 0):(d:Rat) ≠ 0:=by exact_mod_cast h
theorem val_eq {r:Int × Int} {n d:Int} (h:Fr r n d):val r=(n:Rat) / (d:Rat):=by
 obtain ⟨h1,h2,h3⟩:=h;have hb:=(bh h1).1;have e:(r.1:Rat)*(d:Rat)=(n:Rat)*(r.2:Rat):=by exact_mod_cast h3
 have a:=dY (show d ≠ 0 by omega);have b:=dY (show r.2 ≠ 0 by omega);unfold val
 grind
theorem val_inj {p q:Int × Int} (hp:valR p=true) (hq:valR q=true) (h:val p=val q):p=q:=by
 have hb:=(bh hp).1;have kb:=(bh hq).1;have a:=dY (show p.2 ≠ 0 by omega);have b:=dY (show q.2 ≠ 0 by omega);have e:(p.1:Rat)*(q.2:Rat)=(q.1:Rat)*(p.2:Rat):=by unfold val at h;grind
 have e':p.1*q.2=q.1*p.2:=by exact_mod_cast e
 have:=mi (by omega) (by omega) (hU hp) (hU hq) e';exact Prod.ext this.1 this.2
theorem kl {p q:Int × Int} (hp:valR p=true) (hq:valR q=true):0<=cmpR p q ↔ val q<=val p:=by
 have hb:=(bh hp).1;have kb:=(bh hq).1;have a:(0:Rat)<(p.2:Rat):=by exact_mod_cast (show 0<p.2 by omega)
 have b:(0:Rat)<(q.2:Rat):=by exact_mod_cast (show 0<q.2 by omega)
 have e:0<=cmpR p q ↔ q.1*p.2<=p.1*q.2:=by
  unfold cmpR;rw [if_pos (by rw [hp,hq];rfl)]
  split
  ·omega
  ·split <;> omega
 rw [e];have e2:q.1*p.2<=p.1*q.2 ↔ (q.1:Rat)*p.2<=(p.1:Rat)*q.2:=by
  constructor
  ·intro h;exact_mod_cast h
  ·intro h;exact_mod_cast h
 rw [e2];have x1:(p.1:Rat)=val p*p.2:=by unfold val;grind
 have x2:(q.1:Rat)=val q*q.2:=by unfold val;grind
 have hab:(0:Rat)<(p.2:Rat)*q.2:=Rat.mul_pos a b;have x3:(q.1:Rat)*p.2=val q*((p.2:Rat)*q.2):=by rw [x2];grind
 have x4:(p.1:Rat)*q.2=val p*((p.2:Rat)*q.2):=by rw [x1];grind
 rw [x3,x4];exact ⟨fun h=>Rat.le_of_mul_le_mul_right h hab,fun h=>Rat.mul_le_mul_of_nonneg_right h (by grind)⟩
theorem hZ {p:Int × Int} (hp:valR p=true):0<=p.1 ↔ 0<=val p:=by
 have hb:=(bh hp).1;have a:(0:Rat)<(p.2:Rat):=by exact_mod_cast (show 0<p.2 by omega)
 have x1:(p.1:Rat)=val p*p.2:=by unfold val;grind
 have e:0<=p.1 ↔ (0:Rat)*p.2<=val p*p.2:=by
  rw [<-x1];constructor
  ·intro h;have:(0:Rat)<=(p.1:Rat):=by exact_mod_cast h
   grind
  ·intro h;have:(0:Rat)<=(p.1:Rat):=by grind
   exact_mod_cast this
 rw [e];exact ⟨fun h=>Rat.le_of_mul_le_mul_right h a,fun h=>Rat.mul_le_mul_of_nonneg_right h (by grind)⟩
theorem eH (x:Int):val (x,1)=(x:Rat):=by unfold val;grind
theorem eG (r:Int × Int):val (negR r)=- val r:=by
 unfold val negR;have:((-r.1:Int):Rat)=- (r.1:Rat):=by exact_mod_cast rfl
 simp only [this];grind
theorem dj (r:Int × Int):valR (negR r)=valR r:=fV r.1 r.2
theorem kv (n b:Int):inB (-n) (-b) b=inB n (-b) b:=by
 unfold inB;rw [Bool.eq_iff_iff];simp;omega
theorem mu (n d:Int):aD (-n) (-d)=aD n d:=by
 unfold aD;have h1:=kv n 1000000000000000000;have h2:=kv d 1000000000000000000;rw [fF,iC,h1,h2];by_cases hd:d=0
 ·subst hd;simp
 ·have:-d ≠ 0:=by omega
  simp only [hd,this,false_or]
  split
  ·rfl
  ·by_cases hn:d<0
   ·rw [if_neg (by omega),if_pos hn];simp [Int.neg_tdiv,Int.tdiv_neg]
   ·rw [if_pos (by omega),if_neg hn];simp [Int.neg_tdiv,Int.tdiv_neg]
theorem lq (n d:Int):aD (-n) d=(negR (aD n d).1,(aD n d).2):=by
 unfold aD;have h1:=kv n 1000000000000000000;rw [fF,h1];have hc:∀ a b:Int,cutR (-a,b)=(negR (cutR (a,b)).1,(cutR (a,b)).2):=by
  intro a b;unfold cutR;rw [fV]
  split <;> rfl
 split
 ·rfl
 ·split
  ·rw [Int.neg_tdiv,hc]
  ·rw [Int.neg_tdiv,hc]
theorem iz {n d:Int} (h:(aD n d).2=true):d ≠ 0/\valR (aD n d).1=true/\val (aD n d).1=(n:Rat) / (d:Rat):=by
 have hd:d ≠ 0:=by
  intro h0;subst h0;simp [aD] at h
 refine ⟨hd,fg h,?_⟩
 rcases Int.lt_or_gt_of_ne hd with hlt|hgt
 ·have e:=mu n d;rw [<-e] at h ⊢;have:=val_eq (ji (by omega) h);rw [this];have a:=dY hd;have e1:((-n:Int):Rat)=- (n:Rat):=by exact_mod_cast rfl
  have e2:((-d:Int):Rat)=- (d:Rat):=by exact_mod_cast rfl
  rw [e1,e2];grind
 ·exact val_eq (ji hgt h)
theorem both {a b:Bool} (h:(a&&b)=true):a=true/\b=true:=by simpa using h
theorem kH {a b:Int × Int} (h:(addR a b).2=true):valR a=true/\valR b=true/\valR (addR a b).1=true/\val (addR a b).1=val a+val b:=by
 unfold addR at h ⊢
 split at h
 ·next h1 =>
  rw [if_pos h1];obtain ⟨ha,hb⟩:=both h1;obtain ⟨h2,h3,h4⟩:=iz h;refine ⟨ha,hb,h3,?_⟩;rw [h4];have e1:=dY (show a.2 ≠ 0 by have:=(bh ha).1;omega);have e2:=dY (show b.2 ≠ 0 by have:=(bh hb).1;omega);unfold val;simp only [Rat.intCast_add,Rat.intCast_mul]
  grind
 ·simp at h
theorem kI {a b:Int × Int} (h:(subR a b).2=true):valR a=true/\valR b=true/\valR (subR a b).1=true/\val (subR a b).1=val a-val b:=by
 rw [<-mP] at h ⊢;obtain ⟨h1,h2,h3,h4⟩:=kH h;rw [fV] at h2;refine ⟨h1,h2,h3,?_⟩;rw [h4];have:=eG b;unfold negR at this;rw [this];grind
theorem og {a b:Int × Int} (h:(mulR a b).2=true):valR a=true/\valR b=true/\valR (mulR a b).1=true/\val (mulR a b).1=val a*val b:=by
 unfold mulR at h ⊢
 split at h
 ·next h1 =>
  rw [if_pos h1];obtain ⟨ha,hb⟩:=both h1;obtain ⟨h2,h3,h4⟩:=iz h;refine ⟨ha,hb,h3,?_⟩;rw [h4];have e1:=dY (show a.2 ≠ 0 by have:=(bh ha).1;omega);have e2:=dY (show b.2 ≠ 0 by have:=(bh hb).1;omega);unfold val;simp only [Rat.intCast_mul]
  grind
 ·simp at h
theorem val_div {a b:Int × Int} (h:(divR a b).2=true):valR a=true/\valR b=true/\valR (divR a b).1=true/\val b ≠ 0/\val (divR a b).1=val a / val b:=by
 unfold divR at h ⊢
 split at h
 ·next h1 =>
  rw [if_pos h1];obtain ⟨ha,hb⟩:=both h1;obtain ⟨h2,h3,h4⟩:=iz h;have e1:=dY (show a.2 ≠ 0 by have:=(bh ha).1;omega);have e2:=dY (show b.2 ≠ 0 by have:=(bh hb).1;omega);have e3:=dY (show b.1 ≠ 0 by intro h0;rw [h0] at h2;simp at h2);refine ⟨ha,hb,h3,?_,?_⟩
  ·unfold val;grind
  ·rw [h4];unfold val;simp only [Rat.intCast_mul]
   grind
 ·simp at h
theorem pH (a b:Int × Int):mulR a b=mulR b a:=by
 unfold mulR;rw [Bool.and_comm,Int.mul_comm a.1,Int.mul_comm a.2]
theorem mulR_neg (a b:Int × Int):mulR a (negR b)=(negR (mulR a b).1,(mulR a b).2):=by
 unfold mulR;rw [dj]
 split
 ·have:a.1*(negR b).1=-(a.1*b.1):=by unfold negR;simp only;grind
  rw [this,lq];rfl
 ·rfl
theorem addR_neg (a b:Int × Int):addR (negR a) (negR b)=(negR (addR a b).1,(addR a b).2):=by
 unfold addR;rw [dj,dj]
 split
 ·have:(negR a).1*(negR b).2+(negR b).1*(negR a).2=-(a.1*b.2+b.1*a.2):=by unfold negR;simp only;grind
  rw [this,lq];rfl
 ·rfl
def sumN (f:Nat->Rat):Nat->Rat
 | 0=>0
 | k+1=>sumN f k+f k
theorem mR (f g:Nat->Rat) (c:Rat):∀ m,sumN (fun k=>f k+c*g k) m=sumN f m+c*sumN g m
 | 0=>by simp [sumN];grind
 | m+1=>by simp only [sumN,mR f g c m];grind
theorem en {f g:Nat->Rat}:∀ {m},(∀ k,k<m->f k=g k)->sumN f m=sumN g m
 | 0,_=>rfl
 | m+1,h=>by simp only [sumN,en (m:=m) (fun k hk=>h k (by omega)),h m (by omega)]
theorem gq {f:Nat->Rat}:∀ {m},(∀ k,k<m->f k=0)->sumN f m=0
 | 0,_=>rfl
 | m+1,h=>by simp only [sumN,gq (m:=m) (fun k hk=>h k (by omega)),h m (by omega)];grind
theorem mS {f:Nat->Rat} {i:Nat}:∀ {m},i<m->(∀ k,k<m->k ≠ i->f k=0)->sumN f m=f i
 | 0,hi,_=>absurd hi (by omega)
 | m+1,hi,h=>by
   by_cases him:i=m
   ·subst him;simp only [sumN];rw [gq (fun k hk=>h k (by omega) (by omega))];grind
   ·simp only [sumN];rw [mS (m:=m) (by omega) (fun k hk hki=>h k (by omega) hki),h m (by omega) (by omega)];grind
def Rel (n m:Nat) (T0:Nat->Nat->Rat) (c f:Nat->Rat):Prop:=∀ j,j<n+m+1->f j-c j=sumN (fun k=>(f (n+k)-c (n+k))*T0 k j) m
theorem Rel.add {n m:Nat} {T0:Nat->Nat->Rat} {c f g h:Nat->Rat} {k:Rat} (hf:Rel n m T0 c f) (hg:Rel n m T0 (fun _=>0) g) (hh:∀ j,j<n+m+1->h j=f j+k*g j):Rel n m T0 c h:=by
 intro j hj;have h1:=hf j hj;have h2:=hg j hj;rw [hh j hj];have e:sumN (fun i=>(h (n+i)-c (n+i))*T0 i j) m=sumN (fun i=>(f (n+i)-c (n+i))*T0 i j+k*((g (n+i)-0)*T0 i j)) m :=
  en fun i hi=>by rw [hh (n+i) (by omega)];grind
 rw [e,mR,<-h1,<-h2];grind
theorem Rel.scale {n m:Nat} {T0:Nat->Nat->Rat} {g h:Nat->Rat} {k:Rat} (hg:Rel n m T0 (fun _=>0) g) (hh:∀ j,j<n+m+1->h j=k*g j):Rel n m T0 (fun _=>0) h:=by
 have h0:Rel n m T0 (fun _=>0) (fun _=>0):=by
  intro j hj;rw [gq (fun k hk=>by grind)];grind
 exact Rel.add h0 hg (k:=k) (fun j hj=>by rw [hh j hj];grind)
def vrow (r:List (Int × Int)) (j:Nat):Rat:=val (r[j]?.getD (0,0))
def hH (N:Nat) (r:List (Int × Int)):Prop:=r.length=N/\∀ j,j<N->valR (r[j]?.getD (0,0))=true
theorem lA {A B r:List (Int × Int)} {k:Int × Int} (h:sclL A k B=some r):A.length=B.length/\r.length=A.length/\∀ j,j<A.length->valR (r[j]?.getD (0,0))=true/\vrow r j=vrow A j+val k*vrow B j:=by
 unfold sclL at h
 split at h
 ·next hl =>
  refine ⟨hl,cW h,fun j hj=>?_⟩;have hs:=iG h j hj;unfold sclF at hs
  split at hs
  ·next h2 =>
   simp only [Option.some.injEq] at hs;obtain ⟨e1,e2⟩:=h2;obtain ⟨_,_,_,m4⟩:=og e1;obtain ⟨_,_,a3,a4⟩:=kH e2;rw [<-hs];refine ⟨a3,?_⟩;unfold vrow;rw [<-hs,a4,m4]
  ·cases hs
 ·cases h
theorem pf {A r:List (Int × Int)} {p:Int × Int} (h:divL A p=some r):r.length=A.length/\∀ j,j<A.length->valR (r[j]?.getD (0,0))=true/\val p ≠ 0/\vrow r j=vrow A j / val p:=by
 refine ⟨cW h,fun j hj=>?_⟩;have hs:=iG h j hj;unfold divF at hs
 split at hs
 ·next h2 =>
  simp only [Option.some.injEq] at hs;obtain ⟨_,_,d3,d4,d5⟩:=val_div h2;rw [<-hs];refine ⟨d3,d4,?_⟩;unfold vrow;rw [<-hs,d5]
 ·cases hs
structure TInv (n m:Nat) (T0:Nat->Nat->Rat) (t:Tb):Prop where
 cols:t.cols=n
 len:t.rows.length=m
 blen:t.basis.length=m
 bas:∀ b ∈ t.basis,0<=b/\b<n+m
 row:∀ i,i<m->hH (n+m+1) (t.row i)
 rel:∀ i,i<m->Rel n m T0 (fun _=>0) (vrow (t.row i))
theorem TInv.ok {n m:Nat} {T0:Nat->Nat->Rat} {t:Tb} (h:TInv n m T0 t) (hn:n<=1000):tbOk t=true:=by
 unfold tbOk;have hc:=h.cols;have hl:=h.len;simp only [Bool.and_eq_true,inB,decide_eq_true_eq,List.all_eq_true];refine ⟨by omega,by rw [h.blen,hl],fun b hb=>?_,fun r hr=>?_⟩
 ·have:=h.bas b hb;omega
 ·obtain ⟨i,hi,rfl⟩:=List.mem_iff_getElem.1 hr;have:=(h.row i (by omega)).1;unfold Tb.row at this;rw [List.getElem?_eq_getElem hi,Option.getD_some] at this;omega
theorem nZ {rs:List (List (Int × Int))} {i k:Nat} {r:List (Int × Int)} (hi:i<rs.length):(rs.set i r)[k]?.getD []=if k=i then r else rs[k]?.getD []:=by
 by_cases h:k=i
 ·subst h;rw [if_pos rfl];simp [hi]
 ·rw [if_neg h,List.getElem?_set_ne (fun e=>h e.symm)]
theorem lj {n m:Nat} {T0:Nat->Nat->Rat} {t:Tb} (h:TInv n m T0 t) {row col:Nat} (hr:row<m) {main:List (Int × Int)} (hm1:hH (n+m+1) main) (hm2:Rel n m T0 (fun _=>0) (vrow main)) :
 ∀ {k:Nat} {st:List (List (Int × Int))},k<=m->pivN t row col main k=some st->st.length=m/\∀ i,i<m->hH (n+m+1) (st[i]?.getD [])/\Rel n m T0 (fun _=>0) (vrow (st[i]?.getD []))
 | 0,st,hk,e=>by
   simp only [pivN,Option.some.injEq] at e;subst e;refine ⟨by rw [List.length_set,h.len],fun i hi=>?_⟩;rw [nZ (by rw [h.len];exact hr)]
   split
   ·exact ⟨hm1,hm2⟩
   ·exact ⟨h.row i hi,h.rel i hi⟩
 | k+1,st,hk,e=>by
   simp only [pivN] at e;cases e0:pivN t row col main k with
   | none=>rw [e0] at e;cases e
   | some s0 =>
     rw [e0] at e;simp only [Option.bind_some] at e;obtain ⟨hl,hs⟩:=lj h hr hm1 hm2 (by omega) e0;unfold pivF at e
     split at e
     ·simp only [Option.some.injEq] at e;subst e;exact ⟨hl,hs⟩
     ·cases e1:sclL (t.row k) (negR (t.at k col)) main with
      | none=>rw [e1] at e;cases e
      | some r =>
        rw [e1] at e;simp only [Option.map_some,Option.some.injEq] at e;subst e;obtain ⟨s1,s2,s3⟩:=lA e1;have hlk:=(h.row k (by omega)).1;refine ⟨by rw [List.length_set,hl],fun i hi=>?_⟩;rw [nZ (by rw [hl];omega)]
        split
        ·refine ⟨⟨by rw [s2,hlk],fun j hj=>(s3 j (by rw [hlk];exact hj)).1⟩,?_⟩;exact Rel.add (h.rel k (by omega)) hm2 (k:=val (negR (t.at k col))) (fun j hj=>(s3 j (by rw [hlk];exact hj)).2)
        ·exact hs i hi
theorem dQ {n m:Nat} {T0:Nat->Nat->Rat} {t t':Tb} (h:TInv n m T0 t) {row col:Int} (e:aQ t row col=some t'):TInv n m T0 t':=by
 unfold aQ at e
 split at e
 ·next ha =>
  unfold cD at ha;simp only [Bool.and_eq_true,inB,decide_eq_true_eq] at ha;have hc:=h.cols;have hl:=h.len;have hrow:row.toNat<m:=by omega
  have hcol:col.toNat<n+m:=by omega
  unfold et at e;cases e0:divL (t.row row.toNat) (t.at row.toNat col.toNat) with
  | none=>rw [e0] at e;cases e
  | some main =>
    rw [e0] at e;simp only [Option.bind_some] at e;cases e1:pivN t row.toNat col.toNat main t.rows.length with
    | none=>rw [e1] at e;cases e
    | some rs =>
      rw [e1] at e;simp only [Option.map_some,Option.some.injEq] at e;subst e;obtain ⟨d1,d2⟩:=pf e0;have hlr:=(h.row _ hrow).1;have hm1:hH (n+m+1) main:=⟨by rw [d1,hlr],fun j hj=>(d2 j (by rw [hlr];exact hj)).1⟩
      have hm2:Rel n m T0 (fun _=>0) (vrow main):=Rel.scale (h.rel _ hrow) (k:=1 / val (t.at row.toNat col.toNat)) (fun j hj=>by
       have:=(d2 j (by rw [hlr];exact hj)).2
       rw [this.2];have:=this.1;grind)
      obtain ⟨p1,p2⟩:=lj h hrow hm1 hm2 (by omega) e1
      exact ⟨hc,p1,by simp [h.blen],fun b hb=>by
       rcases List.mem_or_eq_of_mem_set hb with h1|h1
       ·exact h.bas b h1
       ·omega,fun i hi=>(p2 i hi).1,fun i hi=>(p2 i hi).2⟩
 ·cases e
theorem jB {n m:Nat} {T0:Nat->Nat->Rat} {t:Tb} (h:TInv n m T0 t) {cost:List (Int × Int)} (hl:cost.length=n+m) (hv:∀ j,j<n+m->valR (cost[j]?.getD (0,0))=true) :
 ∀ {k:Nat} {cs:List (Int × Int)},k<=m->cu t cost k=some cs->hH (n+m+1) cs/\Rel n m T0 (vrow (cost++[(0,1)])) (vrow cs)
 | 0,cs,hk,e=>by
   simp only [cu,Option.some.injEq] at e;subst e;refine ⟨⟨by simp [hl],fun j hj=>?_⟩,?_⟩
   ·by_cases hj2:j<n+m
    ·rw [List.getElem?_append_left (by omega)];exact hv j hj2
    ·obtain rfl:j=n+m:=by omega
     rw [<-hl,List.getElem?_concat_length,Option.getD_some];rfl
   ·intro j hj;rw [gq (fun k hk=>by grind)];grind
 | k+1,cs,hk,e=>by
   simp only [cu] at e;cases e0:cu t cost k with
   | none=>rw [e0] at e;cases e
   | some c0 =>
     rw [e0] at e;simp only [Option.bind_some] at e;obtain ⟨⟨h1,h2⟩,h3⟩:=jB h hl hv (by omega) e0;obtain ⟨s1,s2,s3⟩:=lA e;exact ⟨⟨by rw [s2,h1],fun j hj=>(s3 j (by rw [h1];exact hj)).1⟩,Rel.add h3 (h.rel k (by omega)) (fun j hj=>(s3 j (by rw [h1];exact hj)).2)⟩
theorem dE {n m:Nat} {T0:Nat->Nat->Rat} {t:Tb} (h:TInv n m T0 t) {cost cs:List (Int × Int)} (e:bX t cost=some cs):hH (n+m+1) cs/\Rel n m T0 (vrow (cost++[(0,1)])) (vrow cs):=by
 unfold bX at e
 split at e
 ·next ho =>
  unfold jC allV at ho;simp only [Bool.and_eq_true,decide_eq_true_eq,List.all_eq_true] at ho;have hc:=h.cols;have hl:=h.len;have hlen:cost.length=n+m:=by omega
  rw [hl] at e;exact jB h hlen (fun j hj=>by rw [List.getElem?_eq_getElem (by omega)];exact ho.2.2 _ (List.getElem_mem _)) (Nat.le_refl _) e
 ·cases e
theorem dg {n m:Nat} {T0:Nat->Nat->Rat} {cost:List (Int × Int)}:∀ {f:Nat} {t:Tb} {p:Ph},TInv n m T0 t->aO cost f t=some p->TInv n m T0 p.t/\bX p.t cost=some p.costs/\p.left<=f:=by
 intro f
 induction f with
 | zero =>
   intro t p h e;unfold aO at e;cases e0:bX t cost with
   | none=>rw [e0] at e;cases e
   | some cs =>
     rw [e0] at e;simp only at e
     split at e
     ·simp only [Option.some.injEq] at e;subst e;exact ⟨h,e0,Nat.le_refl _⟩
     ·split at e
      ·simp only [Option.some.injEq] at e;subst e;exact ⟨h,e0,Nat.le_refl _⟩
      ·cases e
 | succ f ih =>
   intro t p h e;unfold aO at e;cases e0:bX t cost with
   | none=>rw [e0] at e;cases e
   | some cs =>
     rw [e0] at e;simp only at e
     split at e
     ·simp only [Option.some.injEq] at e;subst e;exact ⟨h,e0,Nat.le_refl _⟩
     ·split at e
      ·simp only [Option.some.injEq] at e;subst e;exact ⟨h,e0,Nat.le_refl _⟩
      ·cases e1:aQ t (cj t (aZ cs t.cols)) (aZ cs t.cols) with
       | none=>rw [e1] at e;cases e
       | some t' =>
         rw [e1] at e;obtain ⟨a,b,c⟩:=ih (dQ h e1) e;exact ⟨a,b,by omega⟩
theorem ek {n m:Nat} {T0:Nat->Nat->Rat} {n':Nat} {s:Tb × Nat} (h:TInv n m T0 s.1):∀ {k:Nat} {s':Tb × Nat},aY n' s k=some s'->TInv n m T0 s'.1/\s'.2<=s.2
 | 0,s',e=>by simp only [aY,Option.some.injEq] at e;subst e;exact ⟨h,Nat.le_refl _⟩
 | k+1,s',e=>by
   simp only [aY] at e;cases e0:aY n' s k with
   | none=>rw [e0] at e;cases e
   | some s1 =>
     rw [e0] at e;simp only [Option.bind_some] at e;obtain ⟨h1,h2⟩:=ek h e0;unfold fd at e
     split at e
     ·simp only [Option.some.injEq] at e;subst e;exact ⟨h1,h2⟩
     ·split at e
      ·simp only [Option.some.injEq] at e;subst e;exact ⟨h1,h2⟩
      ·split at e
       ·cases e
       ·next f hf =>
        rw [Option.map_eq_some_iff] at e;obtain ⟨t',e1,rfl⟩:=e;exact ⟨dQ h1 e1,by show f<=s.2;omega⟩
theorem kO {X Y:List (Int × Int)}:∀ {k:Nat} {v:Int × Int},dotN X Y k=some v->valR v=true/\(∀ j,j<k->valR (X[j]?.getD (0,0))=true/\valR (Y[j]?.getD (0,0))=true)/\val v=sumN (fun j=>vrow X j*vrow Y j) k
 | 0,v,e=>by
   simp only [dotN,Option.some.injEq] at e;subst e;refine ⟨rfl,fun j hj=>absurd hj (by omega),?_⟩;unfold val sumN;simp;grind
 | k+1,v,e=>by
   simp only [dotN] at e;cases e0:dotN X Y k with
   | none=>rw [e0] at e;cases e
   | some s =>
     rw [e0] at e;simp only [Option.bind_some] at e
     split at e
     ·next h2 =>
      simp only [Option.some.injEq] at e;obtain ⟨h3,h4,h5⟩:=kO e0;obtain ⟨m1,m2,m3,m4⟩:=og h2.1;obtain ⟨a1,a2,a3,a4⟩:=kH h2.2;rw [<-e];refine ⟨a3,fun j hj=>?_,?_⟩
      ·by_cases hjk:j<k
       ·exact h4 j hjk
       ·obtain rfl:j=k:=by omega
        exact ⟨m1,m2⟩
      ·rw [a4,m4,h5];rfl
     ·cases e
theorem ed {X Y:List (Int × Int)} {v:Int × Int} (e:dotL X Y=some v):X.length=Y.length/\valR v=true/\(∀ j,j<X.length->valR (X[j]?.getD (0,0))=true/\valR (Y[j]?.getD (0,0))=true)/\val v=sumN (fun j=>vrow X j*vrow Y j) X.length:=by
 unfold dotL at e
 split at e
 ·next h=>exact ⟨h,kO e⟩
 ·cases e
theorem kN (X Y:List (Int × Int)):∀ k,dotN X Y k=dotN Y X k
 | 0=>rfl
 | k+1=>by simp only [dotN,kN X Y k,pH (X[k]?.getD (0,0))]
theorem fZ (X Y:List (Int × Int)):dotL X Y=dotL Y X:=by
 unfold dotL;by_cases h:X.length=Y.length
 ·rw [if_pos h,if_pos h.symm,h,kN]
 ·rw [if_neg h,if_neg (fun e=>h e.symm)]
theorem lM (Y:List (Int × Int)) (k:Nat):(Y.map negR)[k]?.getD (0,0)=negR (Y[k]?.getD (0,0)):=by
 rw [List.getElem?_map];cases Y[k]? <;> rfl
theorem lK (X Y:List (Int × Int)):∀ k,dotN X (Y.map negR) k=(dotN X Y k).map negR
 | 0=>rfl
 | k+1=>by
   simp only [dotN,lK X Y k,lM,mulR_neg];cases dotN X Y k with
   | none=>rfl
   | some s =>
     simp only [Option.map_some,Option.bind_some,addR_neg]
     split <;> rfl
theorem dotL_neg (X Y:List (Int × Int)):dotL X (Y.map negR)=(dotL X Y).map negR:=by
 unfold dotL;rw [List.length_map]
 split
 ·exact lK X Y _
 ·rfl
theorem oV (l:List Int):aw (l.map fun x=>-x)=(aw l).map negR:=by
 unfold aw;rw [List.map_map,List.map_map];rfl
def niceC (A:List (List Int)) (C:List (Int × Int)) (j:Nat):Prop :=
 (∃ x:Int,C[j]?.getD (0,0)=(x,1)/\-1000000<=x/\x<=1000000) ∨ ∃ j',j'<C.length/\C[j']?.getD (0,0)=negR (C[j]?.getD (0,0))/\colL A j'=(colL A j).map fun x=>-x
theorem bound_le {A:List (List Int)} {Y C:List (Int × Int)} {j:Nat} (h:aK A Y C j=true):aX A Y C j=true:=by
 unfold aK at h;unfold aX;cases e:dotL Y (aw (colL A j)) with
 | none=>rw [e] at h;cases h
 | some v =>
   rw [e] at h;simp only [Bool.and_eq_true,decide_eq_true_eq] at h ⊢;obtain ⟨s1,s2,s3,s4⟩:=kI h.1;rw [kl s1 s2];have:=(hZ s3).1 h.2;rw [s4] at this;grind
theorem nI {x:Int} {v c:Int × Int} (h1:-1000000<=x) (h2:x<=1000000) (hv:valR v=true) (hc:valR c=true) (e:val c=(x:Rat)-val v):subR (x,1) v=(c,true):=by
 have hb:=bh hv;have kb:=bh hc;have hx:valR (x,1)=true:=(Fr.int x (by omega) (by omega)).1;have hn:(x*v.2).natAbs<=1000000*1000000000:=by
  rw [Int.natAbs_mul];exact Nat.mul_le_mul (by omega) (by omega)
 have key:(x*v.2-v.1*1)*c.2=c.1*(1*v.2):=by
  have a:=dY (show v.2 ≠ 0 by omega);have b:=dY (show c.2 ≠ 0 by omega);have:((x:Rat)*v.2-v.1)*c.2=c.1*v.2:=by unfold val at e;grind
  have h3:(x*v.2-v.1)*c.2=c.1*v.2:=by exact_mod_cast this
  grind
 unfold subR;rw [if_pos (by rw [hx,hv];rfl)];simp only;obtain ⟨r,e1,e2⟩:=mt (n:=x*v.2-v.1*1) (d:=1*v.2) (x:=c.1) (D:=c.2) (by omega) (by omega) (by omega) (by omega) (by omega) (by omega) key;rw [e1];have:=Fr.eq e2 (Fr.self hc) rfl;rw [this]
theorem oY {A:List (List Int)} {Y C:List (Int × Int)} {j:Nat} {c:Int × Int} (hc:valR c=true) (hn:∃ x:Int,C[j]?.getD (0,0)=(x,1)/\-1000000<=x/\x<=1000000) (h:aX A Y C j=true)
 (e:∀ v,dotL Y (aw (colL A j))=some v->val c=val (C[j]?.getD (0,0))-val v):aK A Y C j=true:=by
 obtain ⟨x,hx,h1,h2⟩:=hn;unfold aX at h;unfold aK;cases e0:dotL Y (aw (colL A j)) with
 | none=>rw [e0] at h;cases h
 | some v =>
   rw [e0] at h;have hcv:=e v e0;have hv:=(ed e0).2.1;simp only [hx,decide_eq_true_eq] at h hcv ⊢;rw [eH] at hcv;rw [nI h1 h2 hv hc hcv];simp only [Bool.true_and,decide_eq_true_eq];rw [hZ hc,hcv];have:=(kl (Fr.int x (by omega) (by omega)).1 hv).1 h;rw [eH] at this;grind
theorem qt {c:Int × Int} (h:valR c=true):subR c c=((0,1),true):=by
 have hb:=bh h;unfold subR;rw [if_pos (by rw [h];rfl),Int.sub_self];have hp:0<c.2*c.2:=Int.mul_pos (by omega) (by omega);obtain ⟨r,e1,e2⟩:=mt (n:=0) (d:=c.2*c.2) (x:=0) (D:=1) hp (by omega) (bd18 ⟨by omega,hb.2.1⟩ ⟨by omega,hb.2.1⟩).2 (by omega) (by omega) (by omega) (by omega);rw [e1];have:=Fr.eq e2 (Fr.int 0 (by omega) (by omega)) rfl;rw [this]
theorem ol {A:List (List Int)} {Y C:List (Int × Int)} {j j':Nat} (hv:valR (C[j]?.getD (0,0))=true) (e1:C[j']?.getD (0,0)=negR (C[j]?.getD (0,0))) (e2:colL A j'=(colL A j).map fun x=>-x)
 (h:aX A Y C j=true) (h':aX A Y C j'=true):aK A Y C j=true:=by
 unfold aX at h h';unfold aK;rw [e2,oV,dotL_neg,e1] at h';cases e0:dotL Y (aw (colL A j)) with
 | none=>rw [e0] at h;cases h
 | some v =>
   rw [e0] at h h';have hvv:=(ed e0).2.1;simp only [decide_eq_true_eq,Option.map_some] at h h';rw [kl hv hvv] at h;rw [kl (by rw [dj];exact hv) (by rw [dj];exact hvv),eG,eG] at h';have hval:val (C[j]?.getD (0,0))=val v:=by grind
   have:=val_inj hv hvv hval;simp only;rw [this,qt hvv];rfl
theorem eM {A:List (List Int)} {B:List Int} {C:List (Int × Int)} (h:okLP A B C=true):C.length<=70/\A.length<=8/\B.length=A.length/\(∀ j,j<C.length->valR (C[j]?.getD (0,0))=true) /\
 (∀ i,i<A.length->(A[i]?.getD []).length=C.length/\∀ x ∈ A[i]?.getD [],-5000<=x/\x<=5000)/\∀ i,i<B.length->-5000<=B[i]?.getD 0/\B[i]?.getD 0<=5000:=by
 unfold okLP allV at h;simp only [Bool.and_eq_true,decide_eq_true_eq,List.all_eq_true,inB] at h;obtain ⟨h1,h2,h3,h4,h5,h6⟩:=h;refine ⟨h1,h2,h3,fun j hj=>?_,fun i hi=>?_,fun i hi=>?_⟩
 ·rw [List.getElem?_eq_getElem hj];exact h4 _ (List.getElem_mem _)
 ·rw [List.getElem?_eq_getElem hi];exact h5 _ (List.getElem_mem _)
 ·rw [List.getElem?_eq_getElem hi];exact h6 _ (List.getElem_mem _)
theorem ev (b:Int):(b<0/\sideI b=-1) ∨ (¬ b<0/\sideI b=1):=by
 unfold sideI;by_cases h:b<0
 ·exact .inl ⟨h,if_pos h⟩
 ·exact .inr ⟨h,if_neg h⟩
theorem eY {A:List (List Int)} {B:List Int} {n:Nat} {i:Nat} (hl:(A[i]?.getD []).length=n) (hi:i<A.length) :
 (bZ A B i).length=n+A.length+1/\(∀ j,j<n->(bZ A B i)[j]?.getD (0,0)=(sideI (B[i]?.getD 0)*(A[i]?.getD [])[j]?.getD 0,1))/\(∀ k,k<A.length->(bZ A B i)[n+k]?.getD (0,0)=if k=i then (1,1) else (0,1))/\(bZ A B i)[n+A.length]?.getD (0,0)=(sideI (B[i]?.getD 0)*B[i]?.getD 0,1):=by
 have e1:((A[i]?.getD []).map fun x=>(sideI (B[i]?.getD 0)*x,(1:Int))).length=n:=by rw [List.length_map,hl]
 have e2:(kj A.length i).length=A.length:=by simp [kj]
 unfold bZ;refine ⟨by simp [hl,e2];omega,fun j hj=>?_,fun k hk=>?_,?_⟩
 ·rw [List.getElem?_append_left (by rw [List.length_append,e1];omega),List.getElem?_append_left (by omega),List.getElem?_map];rw [List.getElem?_eq_getElem (l:=A[i]?.getD []) (by rw [hl];exact hj)];rfl
 ·rw [List.getElem?_append_left (by rw [List.length_append,e1,e2];omega),List.getElem?_append_right (by omega),e1,Nat.add_sub_cancel_left];unfold kj;rw [List.getElem?_map,List.getElem?_range hk];rfl
 ·rw [List.getElem?_append_right (by rw [List.length_append,e1,e2];omega),List.length_append,e1,e2];simp
theorem mZ (x:Int) (h:-1000000000<=x) (h':x<=1000000000):valR (x,1)=true:=(Fr.int x h h').1
theorem eF {A:List (List Int)} {B:List Int} {C:List (Int × Int)} (h:okLP A B C=true):TInv C.length A.length (fun k j=>vrow (bZ A B k) j) (bC A B C.length):=by
 obtain ⟨h1,h2,h3,h4,h5,h6⟩:=eM h;have hrow:∀ i,i<A.length->(bC A B C.length).row i=bZ A B i:=by
  intro i hi;unfold bC Tb.row;simp only [List.getElem?_map,List.getElem?_range hi,Option.map_some,Option.getD_some]
 refine ⟨rfl,by simp [bC],by simp [bC],fun b hb=>?_,fun i hi=>?_,fun i hi=>?_⟩
 ·simp only [bC,List.mem_map,List.mem_range] at hb;obtain ⟨i,hi,rfl⟩:=hb;omega
 ·rw [hrow i hi];obtain ⟨r1,r2,r3,r4⟩:=eY (B:=B) (h5 i hi).1 hi;refine ⟨r1,fun j hj=>?_⟩;by_cases hj1:j<C.length
  ·rw [r2 j hj1];have hm:(A[i]?.getD [])[j]?.getD 0 ∈ A[i]?.getD []:=by
    rw [List.getElem?_eq_getElem (l:=A[i]?.getD []) (by rw [(h5 i hi).1];exact hj1)];exact List.getElem_mem _
   have hbd:=(h5 i hi).2 _ hm;refine mZ _ ?_ ?_ <;> rcases ev (B[i]?.getD 0) with ⟨_,e⟩|⟨_,e⟩ <;> rw [e] <;> omega
  ·by_cases hj2:j<C.length+A.length
   ·obtain ⟨k,rfl⟩:∃ k,j=C.length+k:=⟨j-C.length,by omega⟩;rw [r3 k (by omega)];split <;> rfl
   ·obtain rfl:j=C.length+A.length:=by omega
    rw [r4];have:=h6 i (by omega);refine mZ _ ?_ ?_ <;> rcases ev (B[i]?.getD 0) with ⟨_,e⟩|⟨_,e⟩ <;> rw [e] <;> omega
 ·rw [hrow i hi];obtain ⟨r1,r2,r3,r4⟩:=eY (B:=B) (h5 i hi).1 hi;intro j hj;rw [mS (i:=i) hi]
  ·unfold vrow;rw [r3 i hi,if_pos rfl];have:val (1,1)=1:=by unfold val;grind
   rw [this];grind
  ·intro k hk hki;unfold vrow;rw [r3 k hk,if_neg hki];have:val (0,1)=0:=by unfold val;grind
   rw [this];grind
theorem jt (f:Nat->Rat):∀ m,sumN (fun k=>- f k) m=- sumN f m
 | 0=>by simp [sumN]
 | m+1=>by simp only [sumN,jt f m];grind
theorem mN (b x:Int):val (sideI b*x,1)=(sideI b:Rat)*(x:Rat):=by rw [eH];exact_mod_cast rfl
theorem pi (B:List Int) (cs:List (Int × Int)) (n i:Nat):val (dk B cs n i)=- ((sideI (B[i]?.getD 0):Rat)*vrow cs (n+i)):=by
 unfold dk sgnR
 rcases ev (B[i]?.getD 0) with ⟨h,e⟩|⟨h,e⟩
 ·rw [if_pos h,e,eG,eG];unfold vrow;have:((-1:Int):Rat)=-1:=by exact_mod_cast rfl
  rw [this];grind
 ·rw [if_neg h,e,eG];unfold vrow;have:((1:Int):Rat)=1:=by exact_mod_cast rfl
  rw [this];grind
theorem raw_opt {A:List (List Int)} {B:List Int} {C:List (Int × Int)} (ok:okLP A B C=true) {r:LpR} (h:rawT A B C=some r) (hs:r.status=1) :
 ∃ cs,hH (C.length+A.length+1) cs/\r.Y.length=B.length/\r.value=negR (cs[C.length+A.length]?.getD (0,0))/\(∀ j,j<C.length->vrow cs j=val (C[j]?.getD (0,0))-sumN (fun k=>vrow r.Y k*(((A[k]?.getD [])[j]?.getD 0:Int):Rat)) A.length) /\
   vrow cs (C.length+A.length)=- sumN (fun k=>vrow r.Y k*((B[k]?.getD 0:Int):Rat)) A.length:=by
 obtain ⟨h1,h2,h3,h4,h5,h6⟩:=eM ok;unfold rawT at h;rw [h3] at h;cases e1:aO (dm C.length A.length) 1000 (bC A B C.length) with
 | none=>rw [e1] at h;cases h
 | some p1 =>
   rw [e1] at h;simp only [Option.bind_some] at h
   split at h
   ·rw [Option.map_eq_some_iff] at h;obtain ⟨Y,_,rfl⟩:=h;cases hs
   ·cases e2:aY C.length (p1.t,p1.left) A.length with
    | none=>rw [e2] at h;cases h
    | some s =>
      rw [e2] at h;simp only [Option.bind_some] at h;rw [Option.map_eq_some_iff] at h;obtain ⟨p2,e3,h⟩:=h
      split at h
      ·subst h;cases hs
      ·have i1:=(dg (eF ok) e1).1;have i2:=(ek (s:=(p1.t,p1.left)) i1 e2).1;obtain ⟨i3,e4,_⟩:=dg i2 e3;obtain ⟨c1,c2⟩:=dE i3 e4;subst h;have hc2:∀ j,(bU C A.length++[(0,1)])[j]?.getD (0,0)=if j<C.length then C[j]?.getD (0,0) else if j<C.length+A.length+1 then (0,1) else (0,0):=by
        intro j;unfold bU;by_cases hj:j<C.length
        ·rw [if_pos hj,List.append_assoc,List.getElem?_append_left hj]
        ·rw [if_neg hj,List.append_assoc,List.getElem?_append_right (by omega)];have:List.replicate A.length ((0:Int),(1:Int))++[(0,1)]=List.replicate (A.length+1) (0,1):=by rw [List.replicate_succ']
         rw [this,List.getElem?_replicate];by_cases hj2:j<C.length+A.length+1
         ·rw [if_pos hj2,if_pos (by omega)];rfl
         ·rw [if_neg hj2,if_neg (by omega)];rfl
       have hz:∀ k,k<A.length+1->vrow (bU C A.length++[(0,1)]) (C.length+k)=0:=by
        intro k hk;unfold vrow;rw [hc2,if_neg (by omega),if_pos (by omega)];unfold val;grind
       have hY:∀ k,k<A.length->vrow ((List.range A.length).map (dk B p2.costs C.length)) k=- ((sideI (B[k]?.getD 0):Rat)*vrow p2.costs (C.length+k)):=by
        intro k hk;unfold vrow;rw [List.getElem?_map,List.getElem?_range hk,Option.map_some,Option.getD_some,pi];rfl
       refine ⟨p2.costs,c1,by simp [h3],rfl,fun j hj=>?_,?_⟩
       ·have hr:=c2 j (by omega);have hcj:vrow (bU C A.length++[(0,1)]) j=val (C[j]?.getD (0,0)):=by unfold vrow;rw [hc2,if_pos hj]
        have hsum:sumN (fun k=>(vrow p2.costs (C.length+k)-vrow (bU C A.length++[(0,1)]) (C.length+k))*vrow (bZ A B k) j) A.length=sumN (fun k=>- (vrow ((List.range A.length).map (dk B p2.costs C.length)) k*(((A[k]?.getD [])[j]?.getD 0:Int):Rat))) A.length :=
         en fun k hk=>by
          rw [hz k (by omega),hY k hk];have:vrow (bZ A B k) j=(sideI (B[k]?.getD 0):Rat)*(((A[k]?.getD [])[j]?.getD 0:Int):Rat):=by
           unfold vrow;rw [(eY (B:=B) (h5 k hk).1 hk).2.1 j hj,mN]
          rw [this];grind
        rw [hsum,jt,hcj] at hr;simp only
        grind
       ·have hr:=c2 (C.length+A.length) (by omega);have hsum:sumN (fun k=>(vrow p2.costs (C.length+k)-vrow (bU C A.length++[(0,1)]) (C.length+k))*vrow (bZ A B k) (C.length+A.length)) A.length=sumN (fun k=>- (vrow ((List.range A.length).map (dk B p2.costs C.length)) k*((B[k]?.getD 0:Int):Rat))) A.length :=
         en fun k hk=>by
          rw [hz k (by omega),hY k hk];have:vrow (bZ A B k) (C.length+A.length)=(sideI (B[k]?.getD 0):Rat)*((B[k]?.getD 0:Int):Rat):=by
           unfold vrow;rw [(eY (B:=B) (h5 k hk).1 hk).2.2.2,mN]
          rw [this];grind
        rw [hsum,jt,hz A.length (by omega)] at hr;simp only
        grind
theorem colL_at (A:List (List Int)) (j k:Nat) (hk:k<A.length):(colL A j)[k]?.getD 0=(A[k]?.getD [])[j]?.getD 0:=by
 unfold colL;rw [List.getElem?_map,List.getElem?_eq_getElem hk];rfl
theorem check_eq {A:List (List Int)} {B:List Int} {C:List (Int × Int)} (ok:okLP A B C=true) (hn:∀ j,j<C.length->niceC A C j) {r:LpR} (h:rawT A B C=some r):aH aK A B C r=aH aX A B C r:=by
 unfold aH
 split
 ·next hs =>
  obtain ⟨cs,c1,c2,c3,c4,c5⟩:=raw_opt ok h hs;obtain ⟨h1,h2,h3,h4,h5,h6⟩:=eM ok;have key:(List.range C.length).all (aK A r.Y C)=(List.range C.length).all (aX A r.Y C):=by
   rw [Bool.eq_iff_iff,List.all_eq_true,List.all_eq_true];constructor
   ·intro ha j hj;exact bound_le (ha j hj)
   ·intro ha j hj;have hj':=List.mem_range.1 hj
    rcases hn j hj' with hi|⟨j',hj2,e1,e2⟩
    ·refine oY (c1.2 j (by omega)) hi (ha j hj) fun v hv=>?_
     have:=c4 j hj';unfold vrow at this;rw [this];obtain ⟨d1,d2,d3,d4⟩:=ed hv;rw [d4,c2,h3]
     congr 1
     refine en fun k hk=>?_
     unfold vrow;rw [lD (by simp [colL];omega),colL_at A j k hk,eH]
    ·exact ol (h4 j hj') e1 e2 (ha j hj) (ha j' (List.mem_range.2 hj2))
  rw [key]
 ·rfl
theorem solve_eq {A:List (List Int)} {B:List Int} {C:List (Int × Int)} (hn:okLP A B C=true->∀ j,j<C.length->niceC A C j):bV aK A B C=bV aX A B C:=by
 unfold bV
 split
 ·next ok =>
  cases e:rawT A B C with
  | none=>rfl
  | some r=>simp only [check_eq ok (hn ok) e]
 ·rfl
set_option maxRecDepth 100000
open Go.RowKit
section
variable {w:World} {a:Option Addr} {na ca:Nat} {b:Option Addr} {nb cb:Nat} {c:Option Addr} {nc cc:Nat} {A:List (List Int)} {B:List Int} {C:List (Int × Int)}
set_option maxHeartbeats 4000000 in
theorem iw (h:LpC w a na ca b nb cb c nc cc A B C) (ok:okLP A B C=true) {xa:Option Addr} {xn xcap:Nat} {X:List (Int × Int)} (hX:Rats w xa xn xcap X) :
 Calls Tryz.prog 234 #[lpW a na ca b nb cb c nc cc,.slice xa xn xcap] w fun e w'=>e=.returned (.bool (dt A B C.length X))/\Ext w w':=by
 obtain ⟨r1,r2,r3,r4,r5,r6⟩:=cg h ok;subst r3;have hx0:=Ext.alloc w (bm a nb ca b nb cb c nc cc);have HX0:=ae hx0;have H:=ae (h.ext hx0);have HXX:=ae (hX.ext hx0);have HTB:=ae (show (w.alloc (bm a nb ca b nb cb c nc cc)).heap[w.heap.size]?=some (.cells #[.slice a nb ca,.slice b nb cb,.slice c nc cc] 109 (0,0)) from aj _ _ _ rfl);have hc1:=h.c.hcap;have hc2:=h.c.hmax;have hb1:=h.b.hcap;have hb2:=h.b.hmax;have hx1:=hX.hcap;have hx2:=hX.hmax;have HV:=ae (dA H.out);rw [ok] at HV;have HE:=ae (show dt A B C.length X=(decide (xn=nc)&&(posV X&&cU A X B)) by unfold dt;rw [h.c.hlen,hX.hlen]);have HR5:=ae r5;clear h hX hx0 ok r4 r5 r6;by_cases hn:xn=nc
 ·subst hn;have hee:((xn:Int) == (xn:Int))=true:=by simp
  obtain ⟨pv,hpv⟩:∃ p,p=posV X:=⟨_,rfl⟩;obtain ⟨gv,hgv⟩:∃ p,p=cU A X B:=⟨_,rfl⟩;have HE2:=ae (show dt A B C.length X=(pv&&gv) by rw [HE.out,<-hpv,<-hgv];simp);have HN:=ae (fun (W:World) (hx:Ext (w.alloc (bm a nb ca b nb cb c xn cc)) W)=>gn (HXX.out.ext hx));have HG:=ae (fun (W:World) (hx:Ext (w.alloc (bm a nb ca b nb cb c xn cc)) W)=>ls (b:=b) (nb:=nb) (cb:=cb) (c:=c) (nc:=xn) (cc:=cc) (H.out.ext hx).a (HXX.out.ext hx) (H.out.ext hx).b (Nat.le_refl _) HR5.out);simp only [<-hpv] at HN;simp only [<-hgv] at HG;clear hpv hgv;cases pv
  ·go_enter Tryz.func234,Tryz.ntmps234
   go_wp2_with fail;refine HV.out.mono ?_;rintro e w1 ⟨rfl,hx⟩;have X1:=ae hx;clear hx;have p2:=ap (X1.out.blk HTB.out);go_wp2_with fail;refine (HN.out _ X1.out).mono ?_;rintro e w2 ⟨rfl,hx⟩;go_wp2_with fail;go_ret;exact ⟨ag HE2.out.symm,HX0.out.trans (X1.out.trans hx)⟩
  ·go_enter Tryz.func234,Tryz.ntmps234
   go_wp2_with fail;refine HV.out.mono ?_;rintro e w1 ⟨rfl,hx⟩;have X1:=ae hx;clear hx;have p2:=ap (X1.out.blk HTB.out);go_wp2_with fail;refine (HN.out _ X1.out).mono ?_;rintro e w2 ⟨rfl,hx⟩;have X2:=ae (X1.out.trans hx);clear hx p2;have p0:=al (X2.out.blk HTB.out);have p1:=am (X2.out.blk HTB.out);have p2:=ap (X2.out.blk HTB.out);go_wp2_with fail;refine (HG.out _ X2.out).mono ?_;rintro e w3 ⟨rfl,hx⟩;go_wp2_with fail;go_ret;exact ⟨ag HE2.out.symm,HX0.out.trans (X2.out.trans hx)⟩
 ·have hee:((xn:Int) == (nc:Int))=false:=by simp;omega
  have HF:=ae (show dt A B C.length X=false by rw [HE.out,decide_eq_false hn];rfl);go_enter Tryz.func234,Tryz.ntmps234
  go_wp2_with fail;refine HV.out.mono ?_;rintro e w1 ⟨rfl,hx⟩;have X1:=ae hx;clear hx;have p2:=ap (X1.out.blk HTB.out);go_wp2_with fail;go_ret;exact ⟨ag HF.out.symm,HX0.out.trans X1.out⟩
theorem ni {A:List (List Int)} {Y D:List (Int × Int)} {j:Nat} (h:none=dotL (aw (colL A j)) Y):aX A Y D j=false:=by unfold aX;rw [fZ,<-h]
theorem nj {A:List (List Int)} {Y D:List (Int × Int)} {j:Nat} {v d:Int × Int} (h:some v=dotL (aw (colL A j)) Y) (hd:D[j]?.getD (0,0)=d):aX A Y D j=decide (0<=cmpR d v):=by unfold aX;rw [fZ,<-h,hd]
set_option maxHeartbeats 8000000 in
theorem mJ (h:LpC w a na ca b nb cb c nc cc A B C) (ok:okLP A B C=true) {ya:Option Addr} {yn yc:Nat} {Y:List (Int × Int)} (hY:Rats w ya yn yc Y) {da:Option Addr} {dn dc:Nat} {D:List (Int × Int)} (hD:Rats w da dn dc D) (hdn:nc<=dn) :
 Calls Tryz.prog 232 #[lpW a na ca b nb cb c nc cc,.slice ya yn yc,.slice da dn dc] w fun e w'=>e=.returned (.bool ((List.range C.length).all (aX A Y D)))/\Ext w w':=by
 obtain ⟨r1,r2,r3,r4,r5,r6⟩:=cg h ok;subst r3;have hx0:=Ext.alloc w (bm a nb ca b nb cb c nc cc);have HX0:=ae hx0;have H:=ae (h.ext hx0);have HYY:=ae (hY.ext hx0);have HDD:=ae (hD.ext hx0);have HTB:=ae (show (w.alloc (bm a nb ca b nb cb c nc cc)).heap[w.heap.size]?=some (.cells #[.slice a nb ca,.slice b nb cb,.slice c nc cc] 109 (0,0)) from aj _ _ _ rfl);have hc1:=h.c.hcap;have hc2:=h.c.hmax;have hd1:=hD.hcap;have hd2:=hD.hmax;have HOK:=ae ok;have HCS:=ae (fun j=>em (fp (A:=A) (fun i hi=>(r5 i (by have:=h.a.hlen;omega)).2) j));have HE:=ae (show (List.range C.length).all (aX A Y D)=(List.range nc).all (aX A Y D) by rw [h.c.hlen]);have HLA:=ae h.a.hlen;clear h hY hD hx0 ok r4 r5 r6;go_enter Tryz.func232,Tryz.ntmps232
 go_wp2_with fail
 go_loopg [7] nc (fun gk ii wr=>∃ k:Nat,Hid (gk+k=nc)/\ii=.int .i64 (k:Int)/\Hid ((List.range k).all (aX A Y D)=true)/\Hid (Ext (w.alloc (bm a nb ca b nb cb c nc cc)) wr))
 case atStart=>exact ⟨0,ae (by omega),rfl,ae rfl,ae (Ext.refl _)⟩
 case round =>
  obtain ⟨g1,h_g1⟩:∃ x,x=gk:=⟨_,rfl⟩;subst h_g1;obtain ⟨wr1,h_wr1⟩:∃ x,x=wr:=⟨_,rfl⟩;subst h_wr1;obtain ⟨k,HK,rfl,HA,HX⟩:=hrel;have p0:=al (HX.out.blk HTB.out);have p1:=am (HX.out.blk HTB.out);have p2:=ap (HX.out.blk HTB.out);by_cases hlt:k<nc
  ·have HCO:=ae (oP (H.out.ext HX.out) HOK.out hlt);go_wp2_with fail;refine HCO.out.mono ?_;rintro e w2 ⟨⟨v2,rfl,ho⟩,hx⟩;obtain ⟨a2,n2,c2,rfl,HN2⟩:=ho.var;have hn2:n2<=1048576:=by have h1:=HN2.out;rw [iY,HLA.out] at h1;omega
   have X2:=ae (HX.out.trans hx);have HDT:=ae (iI ho.ints (HCS.out k) hn2 (HYY.out.ext X2.out));obtain ⟨dv,hdv⟩:∃ d,d=dotL (aw (colL A k)) Y:=⟨_,rfl⟩;rw [<-hdv] at HDT;have HDV:=ae hdv;clear ho hx hdv p0 p1 p2;cases dv with
   | none =>
     rw [show optR none=((0,0),false) from rfl] at HDT;have HF:=ae (show (List.range nc).all (aX A Y D)=false from cM hlt (ni HDV.out));go_wp2_with fail;refine HDT.out.mono ?_;rintro e w3 ⟨rfl,hx3⟩;have X3:=ae (X2.out.trans hx3);clear hx3;obtain ⟨E,hE⟩:∃ E,E=w3.alloc (.cells #[.int .i64 0,.int .i64 0] 43):=⟨_,rfl⟩;have XE:=ae (show Ext w3 E by rw [hE];exact Ext.alloc _ _);go_upto_region 5 with fail;rw [<-hE];clear hE;have hk2:Ext E E.drew:=Ext.drew E;refine wp_region_held_drew (S:=(fun w'=>Ext E w')) (by kernel_rfl) ?_ (fun hHeld=>?_)
     ·exact hk2
     refine tk 0 ?_;refine tk 1 ?_;refine tk 2 ?_;refine sk 3 ?_;refine sk 4 ?_;refine sk 5 ?_;refine sk 6 ?_;refine sk 7 ?_;refine sk 8 ?_;refine sk 9 ?_;refine tk 10 ?_;refine wpAnyH_done (by kernel_rfl) ?_ _;go_wp2_with fail;go_ret;exact ⟨ag (by rw [HE.out,HF.out]),((HX0.out.trans X3.out).trans XE.out).trans hk2⟩
   | some r =>
     obtain ⟨r1,r2⟩:=r;rw [show optR (some (r1,r2))=((r1,r2),true) from rfl] at HDT;go_wp2_with fail;refine HDT.out.mono ?_;rintro e w3 ⟨rfl,hx3⟩;have X3:=ae (X2.out.trans hx3);clear hx3;obtain ⟨E,hE⟩:∃ E,E=w3.alloc (.cells #[.int .i64 r1,.int .i64 r2] 43):=⟨_,rfl⟩;obtain ⟨gz,hgz⟩:∃ g,g=w3.heap.size:=⟨_,rfl⟩;have hxE:Ext w3 E:=by rw [hE];exact Ext.alloc _ _
     have XE:=ae (X3.out.trans hxE);have b0:E.cell? ⟨gz,0,none⟩=some (.int .i64 r1):=by rw [hE,hgz];simp
     have b1:E.cell? ⟨gz,1,none⟩=some (.int .i64 r2):=by rw [hE,hgz];simp
     obtain ⟨db,doff,dx,dy,hda,hdx,e0,e1⟩:=(HDD.out.ext XE.out).at (show k<dn by omega);subst hda;obtain ⟨cm,hcm⟩:∃ x,x=cmpR (dx,dy) (r1,r2):=⟨_,rfl⟩;have HB:=ae (show aX A Y D k=decide (0<=cm) by rw [hcm];exact nj HDV.out hdx);have HCM:=ae (fun w'=>fR dx dy r1 r2 w');simp only [<-hcm] at HCM;go_upto_region 5 with fail;rw [<-hE,<-hgz];clear hE hgz hxE hcm hdx;have hkd:(k:Int)<(dn:Int):=by omega
     have hk0:(0:Int)<=(k:Int):=by omega
     have hk2:Ext E E.drew:=Ext.drew E;have HKEEP:=ae (fun (w':World) (h:Ext E w')=>(⟨h.cellSome e0,h.cellSome e1,h.cellSome b0,h.cellSome b1,h⟩:w'.cell? ⟨db,doff+k*2,none⟩=some (.int .i64 dx)/\w'.cell? ⟨db,doff+k*2+1,none⟩=some (.int .i64 dy)/\w'.cell? ⟨gz,0,none⟩=some (.int .i64 r1)/\w'.cell? ⟨gz,1,none⟩=some (.int .i64 r2)/\Ext E w'));refine wp_region_held_drew (S:=(fun w'=>w'.cell? ⟨db,doff+k*2,none⟩=some (.int .i64 dx)/\w'.cell? ⟨db,doff+k*2+1,none⟩=some (.int .i64 dy)/\w'.cell? ⟨gz,0,none⟩=some (.int .i64 r1)/\w'.cell? ⟨gz,1,none⟩=some (.int .i64 r2)/\Ext E w')) (by kernel_rfl) ?_ (fun hHeld=>?_)
     ·exact HKEEP.out _ hk2
     refine tk 0 ?_;refine tk 1 ?_;refine tk 2 ?_;refine tk 3 ?_;refine tk 4 ?_;refine tk 5 ?_;refine tk 6 ?_;refine tk 7 ?_;refine rd (i:=8) (h:=fun K hK=>?_);go_simp
     (go_at_call 147;refine (HCM.out _).mono ?_;rintro e w4 ⟨rfl,hx4⟩;have hk2:=hk2.trans hx4)
     go_wp2_with fail;refine hK.out _ _ ?_ (fun hHeld=>?_)
     ·exact HKEEP.out _ hk2
     clear hK K
     try simp only [Act.put,sA,sB,sC]
     refine tk 9 ?_;refine tk 10 ?_;refine wpAnyH_done (by kernel_rfl) ?_ _;have X5:=ae (XE.out.trans hk2);clear hk2;by_cases hc0:cm<0
     ·have HF:=ae (show (List.range nc).all (aX A Y D)=false from cM hlt (by rw [HB.out];simp;omega));go_wp2_with fail;go_ret;exact ⟨ag (by rw [HE.out,HF.out]),HX0.out.trans X5.out⟩
     ·have HT:=ae (show (List.range (k+1)).all (aX A Y D)=true by rw [eZ,HA.out,HB.out];simp;omega);go_wp2_with fail
      go_roundg (g1-1)
      case measure=>have:=HK.out;omega
      case rel=>exact ⟨k+1,ae (by have:=HK.out;omega),by go_num,HT,X5⟩
  ·have hkn:nc=k:=by have:=HK.out;omega
   subst hkn;go_wp2_with fail;go_ret;exact ⟨ag (by rw [HE.out,HA.out]),HX0.out.trans HX.out⟩
end
end Go.Proofs.YthjjfkeacobikaaGreat
