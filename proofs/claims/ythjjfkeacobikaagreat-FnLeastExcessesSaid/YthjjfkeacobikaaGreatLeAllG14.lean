import Derived.Test.YthjjfkeacobikaaGreatLeAllG13
import Derived.Test.YthjjfkeacobikaaGreatLeAllG12
set_option linter.unusedVariables false
set_option linter.unusedSimpArgs false
namespace Go.Proofs.YthjjfkeacobikaaGreat
def val (r:Int × Int):Rat:=(r.1:Rat) / (r.2:Rat)
theorem ei {d:Int} (h:d ≠ 0):(d:Rat) ≠ 0:=by exact_mod_cast h
theorem val_eq {r:Int × Int} {n d:Int} (h:Fr r n d):val r=(n:Rat) / (d:Rat):=by
 obtain ⟨h1,h2,h3⟩:=h;have hb:=(aU h1).1;have e:(r.1:Rat)*(d:Rat)=(n:Rat)*(r.2:Rat):=by exact_mod_cast h3
 have a:=ei (show d ≠ 0 by omega);have b:=ei (show r.2 ≠ 0 by omega);unfold val
 grind
theorem iE {p q:Int × Int} (hp:valR p=true) (hq:valR q=true) (h:val p=val q):p=q:=by
 have hb:=(aU hp).1;have kb:=(aU hq).1;have a:=ei (show p.2 ≠ 0 by omega);have b:=ei (show q.2 ≠ 0 by omega);have e:(p.1:Rat)*(q.2:Rat)=(q.1:Rat)*(p.2:Rat):=by unfold val at h;grind
 have e':p.1*q.2=q.1*p.2:=by exact_mod_cast e
 have:=oL (by omega) (by omega) (ic hp) (ic hq) e';exact Prod.ext this.1 this.2
theorem ie {p q:Int × Int} (hp:valR p=true) (hq:valR q=true):0<=cmpR p q ↔ val q<=val p:=by
 have hb:=(aU hp).1;have kb:=(aU hq).1;have a:(0:Rat)<(p.2:Rat):=by exact_mod_cast (show 0<p.2 by omega)
 have b:(0:Rat)<(q.2:Rat):=by exact_mod_cast (show 0<q.2 by omega)
 have e:0<=cmpR p q ↔ q.1*p.2<=p.1*q.2:=by
  unfold cmpR;rw [if_pos (by rw [hp,hq];rfl)]
  split
  ·omega
  ·split <;> omega
 rw [e];have e2:q.1*p.2<=p.1*q.2 ↔ (q.1:Rat)*p.2<=(p.1:Rat)*q.2:=by
  constructor
  ·intro h;exact_mod_cast h
  ·intro h;exact_mod_cast h
 rw [e2];have x1:(p.1:Rat)=val p*p.2:=by unfold val;grind
 have x2:(q.1:Rat)=val q*q.2:=by unfold val;grind
 have hab:(0:Rat)<(p.2:Rat)*q.2:=Rat.mul_pos a b;have x3:(q.1:Rat)*p.2=val q*((p.2:Rat)*q.2):=by rw [x2];grind
 have x4:(p.1:Rat)*q.2=val p*((p.2:Rat)*q.2):=by rw [x1];grind
 rw [x3,x4];exact ⟨fun h=>Rat.le_of_mul_le_mul_right h hab,fun h=>Rat.mul_le_mul_of_nonneg_right h (by grind)⟩
theorem ed {p:Int × Int} (hp:valR p=true):0<=p.1 ↔ 0<=val p:=by
 have hb:=(aU hp).1;have a:(0:Rat)<(p.2:Rat):=by exact_mod_cast (show 0<p.2 by omega)
 have x1:(p.1:Rat)=val p*p.2:=by unfold val;grind
 have e:0<=p.1 ↔ (0:Rat)*p.2<=val p*p.2:=by
  rw [<-x1];constructor
  ·intro h;have:(0:Rat)<=(p.1:Rat):=by exact_mod_cast h
   grind
  ·intro h;have:(0:Rat)<=(p.1:Rat):=by grind
   exact_mod_cast this
 rw [e];exact ⟨fun h=>Rat.le_of_mul_le_mul_right h a,fun h=>Rat.mul_le_mul_of_nonneg_right h (by grind)⟩
theorem bv (x:Int):val (x,1)=(x:Rat):=by unfold val;grind
theorem cL (r:Int × Int):val (negR r)=- val r:=by
 unfold val negR;have:((-r.1:Int):Rat)=- (r.1:Rat):=by exact_mod_cast rfl
 simp only [this];grind
theorem cn (r:Int × Int):valR (negR r)=valR r:=fT r.1 r.2
theorem ms (n b:Int):inB (-n) (-b) b=inB n (-b) b:=by
 unfold inB;rw [Bool.eq_iff_iff];simp;omega
theorem oV (n d:Int):aL (-n) (-d)=aL n d:=by
 unfold aL;have h1:=ms n 1000000000000000000;have h2:=ms d 1000000000000000000;rw [gQ,jK,h1,h2];by_cases hd:d=0
 ·subst hd;simp
 ·have:-d ≠ 0:=by omega
  simp only [hd,this,false_or]
  split
  ·rfl
  ·by_cases hn:d<0
   ·rw [if_neg (by omega),if_pos hn];simp [Int.neg_tdiv,Int.tdiv_neg]
   ·rw [if_pos (by omega),if_neg hn];simp [Int.neg_tdiv,Int.tdiv_neg]
theorem nz (n d:Int):aL (-n) d=(negR (aL n d).1,(aL n d).2):=by
 unfold aL;have h1:=ms n 1000000000000000000;rw [gQ,h1];have hc:∀ a b:Int,cutR (-a,b)=(negR (cutR (a,b)).1,(cutR (a,b)).2):=by
  intro a b;unfold cutR;rw [fT]
  split <;> rfl
 split
 ·rfl
 ·split
  ·rw [Int.neg_tdiv,hc]
  ·rw [Int.neg_tdiv,hc]
theorem jF {n d:Int} (h:(aL n d).2=true):d ≠ 0/\valR (aL n d).1=true/\val (aL n d).1=(n:Rat) / (d:Rat):=by
 have hd:d ≠ 0:=by
  intro h0;subst h0;simp [aL] at h
 refine ⟨hd,gj h,?_⟩
 rcases Int.lt_or_gt_of_ne hd with hlt|hgt
 ·have e:=oV n d;rw [<-e] at h ⊢;have:=val_eq (kz (by omega) h);rw [this];have a:=ei hd;have e1:((-n:Int):Rat)=- (n:Rat):=by exact_mod_cast rfl
  have e2:((-d:Int):Rat)=- (d:Rat):=by exact_mod_cast rfl
  rw [e1,e2];grind
 ·exact val_eq (kz hgt h)
theorem both {a b:Bool} (h:(a&&b)=true):a=true/\b=true:=by simpa using h
theorem jQ {a b:Int × Int} (h:(addR a b).2=true):valR a=true/\valR b=true/\valR (addR a b).1=true/\val (addR a b).1=val a+val b:=by
 unfold addR at h ⊢
 split at h
 ·next h1 =>
  rw [if_pos h1];obtain ⟨ha,hb⟩:=both h1;obtain ⟨h2,h3,h4⟩:=jF h;refine ⟨ha,hb,h3,?_⟩;rw [h4];have e1:=ei (show a.2 ≠ 0 by have:=(aU ha).1;omega);have e2:=ei (show b.2 ≠ 0 by have:=(aU hb).1;omega);unfold val;simp only [Rat.intCast_add,Rat.intCast_mul]
  grind
 ·simp at h
theorem fA {a b:Int × Int} (h:(subR a b).2=true):valR a=true/\valR b=true/\valR (subR a b).1=true/\val (subR a b).1=val a-val b:=by
 rw [<-kM] at h ⊢;obtain ⟨h1,h2,h3,h4⟩:=jQ h;rw [fT] at h2;refine ⟨h1,h2,h3,?_⟩;rw [h4];have:=cL b;unfold negR at this;rw [this];grind
theorem qH {a b:Int × Int} (h:(mulR a b).2=true):valR a=true/\valR b=true/\valR (mulR a b).1=true/\val (mulR a b).1=val a*val b:=by
 unfold mulR at h ⊢
 split at h
 ·next h1 =>
  rw [if_pos h1];obtain ⟨ha,hb⟩:=both h1;obtain ⟨h2,h3,h4⟩:=jF h;refine ⟨ha,hb,h3,?_⟩;rw [h4];have e1:=ei (show a.2 ≠ 0 by have:=(aU ha).1;omega);have e2:=ei (show b.2 ≠ 0 by have:=(aU hb).1;omega);unfold val;simp only [Rat.intCast_mul]
  grind
 ·simp at h
theorem val_div {a b:Int × Int} (h:(divR a b).2=true):valR a=true/\valR b=true/\valR (divR a b).1=true/\val b ≠ 0/\val (divR a b).1=val a / val b:=by
 unfold divR at h ⊢
 split at h
 ·next h1 =>
  rw [if_pos h1];obtain ⟨ha,hb⟩:=both h1;obtain ⟨h2,h3,h4⟩:=jF h;have e1:=ei (show a.2 ≠ 0 by have:=(aU ha).1;omega);have e2:=ei (show b.2 ≠ 0 by have:=(aU hb).1;omega);have e3:=ei (show b.1 ≠ 0 by intro h0;rw [h0] at h2;simp at h2);refine ⟨ha,hb,h3,?_,?_⟩
  ·unfold val;grind
  ·rw [h4];unfold val;simp only [Rat.intCast_mul]
   grind
 ·simp at h
theorem sZ (a b:Int × Int):mulR a b=mulR b a:=by
 unfold mulR;rw [Bool.and_comm,Int.mul_comm a.1,Int.mul_comm a.2]
theorem mulR_neg (a b:Int × Int):mulR a (negR b)=(negR (mulR a b).1,(mulR a b).2):=by
 unfold mulR;rw [cn]
 split
 ·have:a.1*(negR b).1=-(a.1*b.1):=by unfold negR;simp only;grind
  rw [this,nz];rfl
 ·rfl
theorem addR_neg (a b:Int × Int):addR (negR a) (negR b)=(negR (addR a b).1,(addR a b).2):=by
 unfold addR;rw [cn,cn]
 split
 ·have:(negR a).1*(negR b).2+(negR b).1*(negR a).2=-(a.1*b.2+b.1*a.2):=by unfold negR;simp only;grind
  rw [this,nz];rfl
 ·rfl
def sumN (f:Nat->Rat):Nat->Rat
 | 0=>0
 | k+1=>sumN f k+f k
theorem dB (f g:Nat->Rat) (c:Rat):∀ m,sumN (fun k=>f k+c*g k) m=sumN f m+c*sumN g m
 | 0=>by simp [sumN];grind
 | m+1=>by simp only [sumN,dB f g c m];grind
theorem av {f g:Nat->Rat}:∀ {m},(∀ k,k<m->f k=g k)->sumN f m=sumN g m
 | 0,_=>rfl
 | m+1,h=>by simp only [sumN,av (m:=m) (fun k hk=>h k (by omega)),h m (by omega)]
theorem eo {f:Nat->Rat}:∀ {m},(∀ k,k<m->f k=0)->sumN f m=0
 | 0,_=>rfl
 | m+1,h=>by simp only [sumN,eo (m:=m) (fun k hk=>h k (by omega)),h m (by omega)];grind
theorem fk {f:Nat->Rat} {i:Nat}:∀ {m},i<m->(∀ k,k<m->k ≠ i->f k=0)->sumN f m=f i
 | 0,hi,_=>absurd hi (by omega)
 | m+1,hi,h=>by
   by_cases him:i=m
   ·subst him;simp only [sumN];rw [eo (fun k hk=>h k (by omega) (by omega))];grind
   ·simp only [sumN];rw [fk (m:=m) (by omega) (fun k hk hki=>h k (by omega) hki),h m (by omega) (by omega)];grind
def Rel (n m:Nat) (T0:Nat->Nat->Rat) (c f:Nat->Rat):Prop:=∀ j,j<n+m+1->f j-c j=sumN (fun k=>(f (n+k)-c (n+k))*T0 k j) m
theorem Rel.add {n m:Nat} {T0:Nat->Nat->Rat} {c f g h:Nat->Rat} {k:Rat} (hf:Rel n m T0 c f) (hg:Rel n m T0 (fun _=>0) g) (hh:∀ j,j<n+m+1->h j=f j+k*g j):Rel n m T0 c h:=by
 intro j hj;have h1:=hf j hj;have h2:=hg j hj;rw [hh j hj];have e:sumN (fun i=>(h (n+i)-c (n+i))*T0 i j) m=sumN (fun i=>(f (n+i)-c (n+i))*T0 i j+k*((g (n+i)-0)*T0 i j)) m :=
  av fun i hi=>by rw [hh (n+i) (by omega)];grind
 rw [e,dB,<-h1,<-h2];grind
theorem Rel.scale {n m:Nat} {T0:Nat->Nat->Rat} {g h:Nat->Rat} {k:Rat} (hg:Rel n m T0 (fun _=>0) g) (hh:∀ j,j<n+m+1->h j=k*g j):Rel n m T0 (fun _=>0) h:=by
 have h0:Rel n m T0 (fun _=>0) (fun _=>0):=by
  intro j hj;rw [eo (fun k hk=>by grind)];grind
 exact Rel.add h0 hg (k:=k) (fun j hj=>by rw [hh j hj];grind)
def vrow (r:List (Int × Int)) (j:Nat):Rat:=val (r[j]?.getD (0,0))
def iS (N:Nat) (r:List (Int × Int)):Prop:=r.length=N/\∀ j,j<N->valR (r[j]?.getD (0,0))=true
theorem nN {A B r:List (Int × Int)} {k:Int × Int} (h:sclL A k B=some r):A.length=B.length/\r.length=A.length/\∀ j,j<A.length->valR (r[j]?.getD (0,0))=true/\vrow r j=vrow A j+val k*vrow B j:=by
 unfold sclL at h
 split at h
 ·next hl =>
  refine ⟨hl,cI h,fun j hj=>?_⟩;have hs:=gS h j hj;unfold sclF at hs
  split at hs
  ·next h2 =>
   simp only [Option.some.injEq] at hs;obtain ⟨e1,e2⟩:=h2;obtain ⟨_,_,_,m4⟩:=qH e1;obtain ⟨_,_,a3,a4⟩:=jQ e2;rw [<-hs];refine ⟨a3,?_⟩;unfold vrow;rw [<-hs,a4,m4]
  ·cases hs
 ·cases h
theorem sf {A r:List (Int × Int)} {p:Int × Int} (h:divL A p=some r):r.length=A.length/\∀ j,j<A.length->valR (r[j]?.getD (0,0))=true/\val p ≠ 0/\vrow r j=vrow A j / val p:=by
 refine ⟨cI h,fun j hj=>?_⟩;have hs:=gS h j hj;unfold divF at hs
 split at hs
 ·next h2 =>
  simp only [Option.some.injEq] at hs;obtain ⟨_,_,d3,d4,d5⟩:=val_div h2;rw [<-hs];refine ⟨d3,d4,?_⟩;unfold vrow;rw [<-hs,d5]
 ·cases hs
structure TInv (n m:Nat) (T0:Nat->Nat->Rat) (t:Tb):Prop where
 cols:t.cols=n
 len:t.rows.length=m
 blen:t.basis.length=m
 bas:∀ b ∈ t.basis,0<=b/\b<n+m
 row:∀ i,i<m->iS (n+m+1) (t.row i)
 rel:∀ i,i<m->Rel n m T0 (fun _=>0) (vrow (t.row i))
theorem TInv.ok {n m:Nat} {T0:Nat->Nat->Rat} {t:Tb} (h:TInv n m T0 t) (hn:n<=1000):tbOk t=true:=by
 unfold tbOk;have hc:=h.cols;have hl:=h.len;simp only [Bool.and_eq_true,inB,decide_eq_true_eq,List.all_eq_true];refine ⟨by omega,by rw [h.blen,hl],fun b hb=>?_,fun r hr=>?_⟩
 ·have:=h.bas b hb;omega
 ·obtain ⟨i,hi,rfl⟩:=List.mem_iff_getElem.1 hr;have:=(h.row i (by omega)).1;unfold Tb.row at this;rw [List.getElem?_eq_getElem hi,Option.getD_some] at this;omega
theorem qA {rs:List (List (Int × Int))} {i k:Nat} {r:List (Int × Int)} (hi:i<rs.length):(rs.set i r)[k]?.getD []=if k=i then r else rs[k]?.getD []:=by
 by_cases h:k=i
 ·subst h;rw [if_pos rfl];simp [hi]
 ·rw [if_neg h,List.getElem?_set_ne (fun e=>h e.symm)]
theorem nt {n m:Nat} {T0:Nat->Nat->Rat} {t:Tb} (h:TInv n m T0 t) {row col:Nat} (hr:row<m) {main:List (Int × Int)} (hm1:iS (n+m+1) main) (hm2:Rel n m T0 (fun _=>0) (vrow main)) :
 ∀ {k:Nat} {st:List (List (Int × Int))},k<=m->pivN t row col main k=some st->st.length=m/\∀ i,i<m->iS (n+m+1) (st[i]?.getD [])/\Rel n m T0 (fun _=>0) (vrow (st[i]?.getD []))
 | 0,st,hk,e=>by
   simp only [pivN,Option.some.injEq] at e;subst e;refine ⟨by rw [List.length_set,h.len],fun i hi=>?_⟩;rw [qA (by rw [h.len];exact hr)]
   split
   ·exact ⟨hm1,hm2⟩
   ·exact ⟨h.row i hi,h.rel i hi⟩
 | k+1,st,hk,e=>by
   simp only [pivN] at e;cases e0:pivN t row col main k with
   | none=>rw [e0] at e;cases e
   | some s0 =>
     rw [e0] at e;simp only [Option.bind_some] at e;obtain ⟨hl,hs⟩:=nt h hr hm1 hm2 (by omega) e0;unfold pivF at e
     split at e
     ·simp only [Option.some.injEq] at e;subst e;exact ⟨hl,hs⟩
     ·cases e1:sclL (t.row k) (negR (t.at k col)) main with
      | none=>rw [e1] at e;cases e
      | some r =>
        rw [e1] at e;simp only [Option.map_some,Option.some.injEq] at e;subst e;obtain ⟨s1,s2,s3⟩:=nN e1;have hlk:=(h.row k (by omega)).1;refine ⟨by rw [List.length_set,hl],fun i hi=>?_⟩;rw [qA (by rw [hl];omega)]
        split
        ·refine ⟨⟨by rw [s2,hlk],fun j hj=>(s3 j (by rw [hlk];exact hj)).1⟩,?_⟩;exact Rel.add (h.rel k (by omega)) hm2 (k:=val (negR (t.at k col))) (fun j hj=>(s3 j (by rw [hlk];exact hj)).2)
        ·exact hs i hi
theorem eU {n m:Nat} {T0:Nat->Nat->Rat} {t t':Tb} (h:TInv n m T0 t) {row col:Int} (e:bu t row col=some t'):TInv n m T0 t':=by
 unfold bu at e
 split at e
 ·next ha =>
  unfold dU at ha;simp only [Bool.and_eq_true,inB,decide_eq_true_eq] at ha;have hc:=h.cols;have hl:=h.len;have hrow:row.toNat<m:=by omega
  have hcol:col.toNat<n+m:=by omega
  unfold fG at e;cases e0:divL (t.row row.toNat) (t.at row.toNat col.toNat) with
  | none=>rw [e0] at e;cases e
  | some main =>
    rw [e0] at e;simp only [Option.bind_some] at e;cases e1:pivN t row.toNat col.toNat main t.rows.length with
    | none=>rw [e1] at e;cases e
    | some rs =>
      rw [e1] at e;simp only [Option.map_some,Option.some.injEq] at e;subst e;obtain ⟨d1,d2⟩:=sf e0;have hlr:=(h.row _ hrow).1;have hm1:iS (n+m+1) main:=⟨by rw [d1,hlr],fun j hj=>(d2 j (by rw [hlr];exact hj)).1⟩
      have hm2:Rel n m T0 (fun _=>0) (vrow main):=Rel.scale (h.rel _ hrow) (k:=1 / val (t.at row.toNat col.toNat)) (fun j hj=>by
       have:=(d2 j (by rw [hlr];exact hj)).2
       rw [this.2];have:=this.1;grind)
      obtain ⟨p1,p2⟩:=nt h hrow hm1 hm2 (by omega) e1
      exact ⟨hc,p1,by simp [h.blen],fun b hb=>by
       rcases List.mem_or_eq_of_mem_set hb with h1|h1
       ·exact h.bas b h1
       ·omega,fun i hi=>(p2 i hi).1,fun i hi=>(p2 i hi).2⟩
 ·cases e
theorem kV {n m:Nat} {T0:Nat->Nat->Rat} {t:Tb} (h:TInv n m T0 t) {cost:List (Int × Int)} (hl:cost.length=n+m) (hv:∀ j,j<n+m->valR (cost[j]?.getD (0,0))=true) :
 ∀ {k:Nat} {cs:List (Int × Int)},k<=m->cJ t cost k=some cs->iS (n+m+1) cs/\Rel n m T0 (vrow (cost++[(0,1)])) (vrow cs)
 | 0,cs,hk,e=>by
   simp only [cJ,Option.some.injEq] at e;subst e;refine ⟨⟨by simp [hl],fun j hj=>?_⟩,?_⟩
   ·by_cases hj2:j<n+m
    ·rw [List.getElem?_append_left (by omega)];exact hv j hj2
    ·obtain rfl:j=n+m:=by omega
     rw [<-hl,List.getElem?_concat_length,Option.getD_some];rfl
   ·intro j hj;rw [eo (fun k hk=>by grind)];grind
 | k+1,cs,hk,e=>by
   simp only [cJ] at e;cases e0:cJ t cost k with
   | none=>rw [e0] at e;cases e
   | some c0 =>
     rw [e0] at e;simp only [Option.bind_some] at e;obtain ⟨⟨h1,h2⟩,h3⟩:=kV h hl hv (by omega) e0;obtain ⟨s1,s2,s3⟩:=nN e;exact ⟨⟨by rw [s2,h1],fun j hj=>(s3 j (by rw [h1];exact hj)).1⟩,Rel.add h3 (h.rel k (by omega)) (fun j hj=>(s3 j (by rw [h1];exact hj)).2)⟩
theorem dW {n m:Nat} {T0:Nat->Nat->Rat} {t:Tb} (h:TInv n m T0 t) {cost cs:List (Int × Int)} (e:ce t cost=some cs):iS (n+m+1) cs/\Rel n m T0 (vrow (cost++[(0,1)])) (vrow cs):=by
 unfold ce at e
 split at e
 ·next ho =>
  unfold kW allV at ho;simp only [Bool.and_eq_true,decide_eq_true_eq,List.all_eq_true] at ho;have hc:=h.cols;have hl:=h.len;have hlen:cost.length=n+m:=by omega
  rw [hl] at e;exact kV h hlen (fun j hj=>by rw [List.getElem?_eq_getElem (by omega)];exact ho.2.2 _ (List.getElem_mem _)) (Nat.le_refl _) e
 ·cases e
theorem dp {n m:Nat} {T0:Nat->Nat->Rat} {cost:List (Int × Int)}:∀ {f:Nat} {t:Tb} {p:Ph},TInv n m T0 t->aV cost f t=some p->TInv n m T0 p.t/\ce p.t cost=some p.costs/\p.left<=f:=by
 intro f
 induction f with
 | zero =>
   intro t p h e;unfold aV at e;cases e0:ce t cost with
   | none=>rw [e0] at e;cases e
   | some cs =>
     rw [e0] at e;simp only at e
     split at e
     ·simp only [Option.some.injEq] at e;subst e;exact ⟨h,e0,Nat.le_refl _⟩
     ·split at e
      ·simp only [Option.some.injEq] at e;subst e;exact ⟨h,e0,Nat.le_refl _⟩
      ·cases e
 | succ f ih =>
   intro t p h e;unfold aV at e;cases e0:ce t cost with
   | none=>rw [e0] at e;cases e
   | some cs =>
     rw [e0] at e;simp only at e
     split at e
     ·simp only [Option.some.injEq] at e;subst e;exact ⟨h,e0,Nat.le_refl _⟩
     ·split at e
      ·simp only [Option.some.injEq] at e;subst e;exact ⟨h,e0,Nat.le_refl _⟩
      ·cases e1:bu t (cq t (bp cs t.cols)) (bp cs t.cols) with
       | none=>rw [e1] at e;cases e
       | some t' =>
         rw [e1] at e;obtain ⟨a,b,c⟩:=ih (eU h e1) e;exact ⟨a,b,by omega⟩
theorem eQ {n m:Nat} {T0:Nat->Nat->Rat} {n':Nat} {s:Tb × Nat} (h:TInv n m T0 s.1):∀ {k:Nat} {s':Tb × Nat},bo n' s k=some s'->TInv n m T0 s'.1/\s'.2<=s.2
 | 0,s',e=>by simp only [bo,Option.some.injEq] at e;subst e;exact ⟨h,Nat.le_refl _⟩
 | k+1,s',e=>by
   simp only [bo] at e;cases e0:bo n' s k with
   | none=>rw [e0] at e;cases e
   | some s1 =>
     rw [e0] at e;simp only [Option.bind_some] at e;obtain ⟨h1,h2⟩:=eQ h e0;unfold fZ at e
     split at e
     ·simp only [Option.some.injEq] at e;subst e;exact ⟨h1,h2⟩
     ·split at e
      ·simp only [Option.some.injEq] at e;subst e;exact ⟨h1,h2⟩
      ·split at e
       ·cases e
       ·next f hf =>
        rw [Option.map_eq_some_iff] at e;obtain ⟨t',e1,rfl⟩:=e;exact ⟨eU h1 e1,by show f<=s.2;omega⟩
def gK:List Rat->List Rat->Prop
 | x :: a,y :: b=>x<y ∨ (x=y/\gK a b)
 | _,_=>False
def eG (u:Rat) (l:List Rat):Nat:=l.countP fun x=>decide (u<=x)
def eO (t:Rat) (l:List Rat):Nat:=l.countP fun x=>decide (t<x)
theorem gF (u x:Rat) (l:List Rat):eG u (x :: l)=eG u l+if u<=x then 1 else 0:=by unfold eG;rw [List.countP_cons];simp
theorem iG (u x:Rat) (l:List Rat):eO u (x :: l)=eO u l+if u<x then 1 else 0:=by unfold eO;rw [List.countP_cons];simp
theorem kS {u:Rat} {l:List Rat} (h:∀ x ∈ l,x<u):eG u l=0:=by
 unfold eG;rw [List.countP_eq_zero];intro x hx;have:=h x hx;simp only [decide_eq_true_eq]
 grind
theorem kT {u:Rat} {l:List Rat} (h:∀ x ∈ l,x<=u):eO u l=0:=by
 unfold eO;rw [List.countP_eq_zero];intro x hx;have:=h x hx;simp only [decide_eq_true_eq]
 grind
theorem jh {t:Rat}:∀ {a b:List Rat},a.Pairwise (fun x y=>y<=x)->b.Pairwise (fun x y=>y<=x)->a.length=b.length->(∀ u,t<u->eG u a<=eG u b)->eO t a<eO t b->gK a b
 | [],[],_,_,_,_,h=>by simp [eO] at h
 | x :: a,y :: b,ha,hb,hl,h1,h2=>by
   obtain ⟨ha1,ha2⟩:=List.pairwise_cons.1 ha;obtain ⟨hb1,hb2⟩:=List.pairwise_cons.1 hb;by_cases hlt:x<y
   ·exact .inl hlt
   by_cases heq:x=y
   ·subst heq;refine .inr ⟨rfl,jh (t:=t) ha2 hb2 (by simpa using hl) (fun u hu=>?_) ?_⟩
    ·have:=h1 u hu;rw [gF,gF] at this;omega
    ·rw [iG,iG] at h2;omega
   ·have hgt:y<x:=by grind
    exfalso
    by_cases hx:t<x
    ·have h3:=h1 x hx;rw [gF,if_pos Rat.le_refl,gF,if_neg (by grind),kS (u:=x) (l:=b) (fun z hz=>by have:=hb1 z hz;grind)] at h3;omega
    ·rw [iG (l:=b),if_neg (by grind),kT (l:=b) (fun z hz=>by have:=hb1 z hz;grind)] at h2;omega
 | [],_ :: _,_,_,hl,_,_=>by simp at hl
 | _ :: _,[],_,_,hl,_,_=>by simp at hl
open Go.RowKit
abbrev RR:Type:=Int × Int
def geR (x y:RR):Bool:=!decide (cmpR x y<0)
theorem fO {x y:RR} (hx:valR x=true) (hy:valR y=true):geR x y=true ↔ val y<=val x:=by
 rw [<-ie hx hy];unfold geR;simp
theorem sG {x y:RR} (hx:valR x=true) (hy:valR y=true):geR x y=true ∨ geR y x=true:=by
 rw [fO hx hy,fO hy hx]
 rcases Rat.le_total (a:=val y) (b:=val x) with h|h
 ·exact .inl h
 ·exact .inr h
theorem sH {x y z:RR} (hx:valR x=true) (hy:valR y=true) (hz:valR z=true) (h:geR x y=true) (k:geR y z=true):geR x z=true:=by
 rw [fO hx hy] at h;rw [fO hy hz] at k;rw [fO hx hz];exact Rat.le_trans k h
def posX (x:RR) (l:List RR):Nat->Nat
 | 0=>0
 | m+1=>if cmpR (l[m]?.getD (0,0)) x<0 then posX x l m else m+1
def insX (x:RR) (l:List RR):List RR:=l.take (posX x l l.length)++x :: l.drop (posX x l l.length)
def srtT (l:List RR):Nat->List RR
 | 0=>[]
 | k+1=>insX (l[k]?.getD (0,0)) (srtT l k)
def srtX (l:List RR):List RR:=srtT l l.length
theorem mB (x:RR) (l:List RR):∀ m,posX x l m<=m
 | 0=>Nat.le_refl _
 | m+1=>by
   unfold posX
   split
   ·have:=mB x l m;omega
   ·omega
theorem jv {x:RR} {l:List RR} {m:Nat} (h:¬ cmpR (l[m]?.getD (0,0)) x<0):posX x l (m+1)=m+1:=by rw [posX,if_neg h]
theorem mA {x:RR} {l:List RR} {m:Nat} (h:cmpR (l[m]?.getD (0,0)) x<0):posX x l (m+1)=posX x l m:=by rw [posX,if_pos h]
theorem lG {x:RR} {l:List RR}:∀ {m i:Nat},posX x l m<=i->i<m->cmpR (l[i]?.getD (0,0)) x<0
 | m+1,i,h,hi=>by
   by_cases hc:cmpR (l[m]?.getD (0,0)) x<0
   ·rw [mA hc] at h;by_cases him:i=m
    ·rw [him];exact hc
    ·exact lG h (by omega)
   ·rw [jv hc] at h;omega
theorem oT {x:RR} {l:List RR}:∀ {m:Nat},0<posX x l m->¬ cmpR (l[posX x l m-1]?.getD (0,0)) x<0
 | 0,h=>by simp [posX] at h
 | m+1,h=>by
   by_cases hc:cmpR (l[m]?.getD (0,0)) x<0
   ·rw [mA hc] at h ⊢;exact oT h
   ·rw [jv hc,Nat.add_sub_cancel];exact hc
theorem insX_len (x:RR) (l:List RR):(insX x l).length=l.length+1:=by
 have:=mB x l l.length;unfold insX;simp only [List.length_append,List.length_cons,List.length_take,List.length_drop];omega
theorem jb (l:List RR):∀ k,(srtT l k).length=k
 | 0=>rfl
 | k+1=>by rw [srtT,insX_len,jb l k]
theorem sT (x:RR) (l:List RR):(insX x l).Perm (l++[x]):=by
 unfold insX;refine List.perm_middle.trans ?_;rw [List.take_append_drop];exact (List.perm_append_singleton x l).symm
theorem rK {l:List RR} {k:Nat} (h:k<l.length):l.take (k+1)=l.take k++[l[k]?.getD (0,0)]:=by
 rw [List.take_succ_eq_append_getElem h];simp [h]
theorem jB (l:List RR):∀ k,k<=l.length->(srtT l k).Perm (l.take k)
 | 0,_=>by simp [srtT]
 | k+1,h=>by
   rw [srtT,rK (by omega)];exact (sT _ _).trans ((jB l k (by omega)).append_right _)
theorem eM (l:List RR):(srtX l).Perm l:=by
 have:=jB l l.length (Nat.le_refl _)
 rwa [List.take_length] at this
theorem pO {x:RR} {l:List RR} (hx:valR x=true) (hl:∀ y ∈ l,valR y=true) (h:l.Pairwise fun a b=>geR a b=true):(insX x l).Pairwise fun a b=>geR a b=true:=by
 obtain ⟨p,hp⟩:∃ p,p=posX x l l.length:=⟨_,rfl⟩;have hle:=mB x l l.length;have hsp:l=l.take p++l.drop p:=(List.take_append_drop p l).symm;have h2:=h;rw [hsp,List.pairwise_append] at h2;obtain ⟨ht,hd,htd⟩:=h2;have hxd:∀ b ∈ l.drop p,geR x b=true:=by
  intro b hb;obtain ⟨i,hi,rfl⟩:=List.mem_drop_iff_getElem.1 hb;have hc:=lG (x:=x) (l:=l) (m:=l.length) (i:=p+i) (by omega) (by omega);rw [List.getElem?_eq_getElem (by omega),Option.getD_some] at hc;have hv:=hl _ (List.getElem_mem (show p+i<l.length by omega))
  rcases sG hx hv with h1|h1
  ·exact h1
  ·unfold geR at h1;rw [decide_eq_true hc] at h1;cases h1
 have htx:∀ a ∈ l.take p,geR a x=true:=by
  intro a ha;obtain ⟨i,hi,rfl⟩:=List.mem_take_iff_getElem.1 ha;have hip:i<p:=by omega
  have hpl:p-1<l.length:=by omega
  have hc:=oT (x:=x) (l:=l) (m:=l.length) (by omega);rw [<-hp,List.getElem?_eq_getElem hpl,Option.getD_some] at hc;have htop:geR l[p-1] x=true:=by unfold geR;rw [decide_eq_false hc];rfl
  by_cases hil:i=p-1
  ·subst hil;exact htop
  ·have:=List.pairwise_iff_getElem.1 h i (p-1) (by omega) hpl (by omega);exact sH (hl _ (List.getElem_mem _)) (hl _ (List.getElem_mem _)) hx this htop
 unfold insX;rw [<-hp,List.pairwise_append];refine ⟨ht,List.pairwise_cons.2 ⟨hxd,hd⟩,fun a ha b hb=>?_⟩
 rcases List.mem_cons.1 hb with rfl|hb
 ·exact htx a ha
 ·exact htd a ha b hb
theorem srtT_val {l:List RR} (hl:∀ y ∈ l,valR y=true) {k:Nat} (hk:k<=l.length):∀ y ∈ srtT l k,valR y=true:=fun y hy =>
 hl y (List.mem_of_mem_take ((jB l k hk).mem_iff.1 hy))
theorem is {l:List RR} (hl:∀ y ∈ l,valR y=true):∀ k,k<=l.length->(srtT l k).Pairwise fun a b=>geR a b=true
 | 0,_=>List.Pairwise.nil
 | k+1,h=>by
   rw [srtT];refine pO ?_ (srtT_val hl (by omega)) (is hl k (by omega));rw [List.getElem?_eq_getElem (by omega),Option.getD_some];exact hl _ (List.getElem_mem _)
def cmpT (l:List RR):Nat->List RR
 | 0=>[]
 | k+1=>if 0<k/\l[k]?.getD (0,0)=l[k-1]?.getD (0,0) then cmpT l k else cmpT l k++[l[k]?.getD (0,0)]
theorem cmpT_skip {l:List RR} {k:Nat} (h:0<k) (e:l[k]?.getD (0,0)=l[k-1]?.getD (0,0)):cmpT l (k+1)=cmpT l k:=by rw [cmpT,if_pos ⟨h,e⟩]
theorem cmpT_take {l:List RR} {k:Nat} (h:¬ (0<k/\l[k]?.getD (0,0)=l[k-1]?.getD (0,0))):cmpT l (k+1)=cmpT l k++[l[k]?.getD (0,0)]:=by rw [cmpT,if_neg h]
structure Cmpd (l M:List RR) (i j:Nat):Prop where
 len:M.length=l.length
 lt:i<j
 pos:0<i
 jl:j<=l.length
 lo:M.take i=cmpT l j
 hi:∀ k,i<=k->M[k]?.getD (0,0)=l[k]?.getD (0,0)
theorem ib (l:List RR):(srtX l).length=l.length:=jb l _
theorem excS_val {V:List Int} {X:List RR} {s:Nat} {x:RR} (h:excS V X s=some x):valR x=true:=by
 unfold excS at h;cases hs:cM X s with
 | none=>rw [hs] at h;cases h
 | some r =>
   rw [hs] at h;change excR _ r=some x at h;unfold excR at h
   split at h
   ·next h1 =>
    simp only [Option.some.injEq] at h;rw [<-h];unfold subR at h1 ⊢
    split
    ·next h2=>rw [if_pos h2] at h1;exact gj h1
    ·next h2=>rw [if_neg h2] at h1;cases h1
   ·cases h
theorem runT_mem {f:Nat->Option RR} {m:Nat} {r:List RR} (h:runT f m=some r) {P:RR->Prop} (hf:∀ i x,f i=some x->P x):∀ x ∈ r,P x:=by
 intro x hx;obtain ⟨i,hi,rfl⟩:=List.mem_iff_getElem.1 hx;have hl:=cI h;have:=gS h i (by omega);rw [List.getElem?_eq_getElem hi,Option.getD_some] at this;exact hf i _ this
theorem fM {p:Int} {V:List Int} {X:List RR} {l:List RR} (h:allX p V X=some l):∀ y ∈ l,valR y=true:=by
 have hp:=(dQ h).1;rw [jH hp] at h;exact runT_mem h fun i x hx=>excS_val hx
theorem qd {x y:RR} (hx:valR x=true) (hy:valR y=true):cmpR x y<0 ↔ val x<val y:=by
 have h:=ie hx hy;constructor
 ·intro k
  rcases Rat.le_total (a:=val y) (b:=val x) with h1|h1
  ·have:=h.2 h1;omega
  ·rcases Rat.le_iff_lt_or_eq.1 h1 with h2|h2
   ·exact h2
   ·have:=h.2 (by rw [h2];exact Rat.le_refl);omega
 ·intro k;have:=mt h.1 (by grind);omega
end Go.Proofs.YthjjfkeacobikaaGreat
