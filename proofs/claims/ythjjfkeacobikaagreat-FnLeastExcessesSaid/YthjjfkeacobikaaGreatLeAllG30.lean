import Derived.Test.YthjjfkeacobikaaGreatLeAllG29
import Derived.Test.YthjjfkeacobikaaGreatLeAllG16
import Derived.Test.YthjjfkeacobikaaGreatLeAllG8
set_option linter.unusedVariables false
set_option linter.unusedSimpArgs false
namespace Go.Proofs.YthjjfkeacobikaaGreat
theorem mulN {a b:Int} {A B:Nat} (h:a.natAbs<=A) (k:b.natAbs<=B):(a*b).natAbs<=A*B:=by rw [Int.natAbs_mul];exact Nat.mul_le_mul h k
theorem fr_of {x:Int × Int} {M:Nat} {m:Int} (hv:valR x=true) (hM:1<=M) (h:(M:Rat)*val x=(m:Rat)):Fr x m (M:Int):=by
 refine ⟨hv,by omega,?_⟩;have hb:=aU hv;have h2:((x.2:Int):Rat) ≠ 0:=ei (by omega);unfold val at h;have e:((x.1:Int):Rat)*(M:Rat)=(m:Rat)*(x.2:Rat):=by grind
 have e2:(((x.1*(M:Int)):Int):Rat)=((m*x.2:Int):Rat):=by
  rw [Rat.intCast_mul,Rat.intCast_mul,<-e];have:(((M:Nat):Int):Rat)=(M:Rat):=by push_cast;rfl
  rw [this]
 exact_mod_cast e2
theorem lT {X:List (Int × Int)} {q M:Nat} {m:Nat->Int} (hX:X.length=q) (hM1:1<=M) (hM2:M<=2048) (hfr:∀ i,i<q->Fr (X[i]?.getD (0,0)) (m i) (M:Int)) (hb:∀ i,i<q->(m i).natAbs<=10000000) {s:Nat}:∀ j,j<=5->(∀ k,k<j->q<=k->bit (s:Int) k=false) ->
 ∃ r x,payT X (memI (s:Int) j) (0,1)=some r/\Fr r x (M:Int)/\x.natAbs<=10000000*j
 | 0,_,_=>⟨(0,1),0,rfl,⟨by decide,by omega,by simp⟩,by simp⟩
 | j+1,hj,hbit=>by
   obtain ⟨r,x,h1,h2,h3⟩:=lT hX hM1 hM2 hfr hb j (by omega) (fun k hk=>hbit k (by omega));rw [ip,eZ,h1]
   show ∃ r' x',payT X _ r=some r'/\_;cases hbj:bit (s:Int) j with
   | false =>
     rw [if_neg (by simp)];exact ⟨r,x,rfl,h2,by omega⟩
   | true =>
     have hjq:j<q:=by
      rcases Nat.lt_or_ge j q with h|h
      ·exact h
      ·rw [hbit j (by omega) h] at hbj;cases hbj
     rw [if_pos rfl];have hf:=hfr j hjq;have hbm:=hb j hjq;have z1:=h2.size;have z2:=hf.size;have p1:=(aU h2.1).1;have p2:=(aU hf.1).1;have n1:=mulN (A:=50000000) (B:=2048) (a:=r.1) (b:=(X[j]?.getD (0,0)).2) (by omega) (by omega);have n2:=mulN (A:=50000000) (B:=2048) (a:=(X[j]?.getD (0,0)).1) (b:=r.2) (by omega) (by omega);obtain ⟨c,c1,c2⟩:=h2.add hf (z:=x+m j) (F:=(M:Int)) (by omega) (by omega) (by omega) (by omega) (by grind);refine ⟨c,x+m j,?_,c2,by omega⟩;simp only [payT];rw [if_neg (by omega),Int.toNat_natCast,c1]
     rfl
theorem od {V:List Int} {X:List (Int × Int)} {q M:Nat} {m:Nat->Int} (hX:X.length=q) (hq:q<=5) (hM1:1<=M) (hM2:M<=2048) (hfr:∀ i,i<q->Fr (X[i]?.getD (0,0)) (m i) (M:Int)) (hb:∀ i,i<q->(m i).natAbs<=10000000)
 (hV:∀ x ∈ V,-500<=x/\x<=500) {s:Nat} (hs:s<cN q):∃ r e,cM X s=some r/\excS V X s=some e/\valR e=true/\val e=exZ q V (fun i=>val (X[i]?.getD (0,0))) (s:Int):=by
 have hcn:=cX q hq;obtain ⟨r,x,h1,h2,h3⟩:=lT hX hM1 hM2 hfr hb (s:=s) 5 (by omega) (fun k hk hqk=>mX ⟨q,by omega⟩ ⟨s,by omega⟩ ⟨k,by omega⟩ hs hqk);have h1:cM X s=some r:=h1;have hv:-500<=V[s]?.getD 0/\V[s]?.getD 0<=500:=by
  by_cases hl:s<V.length
  ·rw [List.getElem?_eq_getElem hl,Option.getD_some];exact hV _ (List.getElem_mem hl)
  ·rw [List.getElem?_eq_none (by omega)];simp
 have z1:=h2.size;have p1:=(aU h2.1).1;have n1:=mulN (A:=500) (B:=2048) (a:=V[s]?.getD 0) (b:=(M:Int)) (by omega) (by omega);have n2:=mulN (A:=500) (B:=2048) (a:=V[s]?.getD 0) (b:=r.2) (by omega) (by omega);obtain ⟨c,c1,c2⟩:=(Fr.int (V[s]?.getD 0) (by omega) (by omega)).sub h2 (z:=V[s]?.getD 0*(M:Int)-x) (F:=(M:Int)) (by omega) (by omega) (by omega) (by simp only;omega) (by grind);have he:excS V X s=some c:=by
  unfold excS;rw [h1]
  show excR _ r=some c;unfold excR;rw [c1]
  rfl
 obtain ⟨r1,_⟩:=ja hq hs h1;refine ⟨r,c,h1,he,c2.1,?_⟩;have hsb:(subR (V[s]?.getD 0,1) r).2=true:=by rw [c1]
 obtain ⟨_,_,_,a4⟩:=fA hsb;rw [c1] at a4;rw [a4,bv,r1];unfold exZ;rw [Int.toNat_natCast]
theorem val_neg0 {e:Int × Int} (hv:valR e=true) (h:val e<=0):e.1<=0:=by
 have h2:=(ed (p:=negR e) (by rw [cn];exact hv)).2 (by rw [cL];grind);have h2:0<=-e.1:=h2;omega
theorem val_neg1 {e:Int × Int} (hv:valR e=true) (h:e.1<=0):val e<=0:=by
 have h2:=(ed (p:=negR e) (by rw [cn];exact hv)).1 (by show 0<=-e.1;omega);rw [cL] at h2
 grind
theorem mM {p:Int} {V:List Int} {X:List (Int × Int)} {q M:Nat} {m:Nat->Int} (hp:p=(q:Int)) (hg:aN p V=true) (hX:X.length=q) (hval:∀ x ∈ X,valR x=true) (hM1:1<=M) (hM2:M<=2048) (hfr:∀ i,i<q->Fr (X[i]?.getD (0,0)) (m i) (M:Int)) (hb:∀ i,i<q->(m i).natAbs<=10000000)
 (hN:exZ q V (fun i=>val (X[i]?.getD (0,0))) ((V.length:Int)-1)=0) (hE:∀ e ∈ exL q V (fun i=>val (X[i]?.getD (0,0))),e<=0):et p V X=true:=by
 obtain ⟨n,hpn,h1,h5,hlen,_,hV⟩:=bd hg;obtain rfl:n=q:=by omega
 have hcn:=cX n h5;have hpay:payP p V X=true:=by
  obtain ⟨r,e,e1,e2,e3,e4⟩:=od hX h5 hM1 hM2 hfr hb hV (s:=V.length-1) (by omega);obtain ⟨r1,r2⟩:=ja h5 (show V.length-1<cN n by omega) e1;unfold payP;rw [hg,e1];have ea:allV X=true:=by unfold allV;exact List.all_eq_true.2 hval
  have hgv:bz p V=V[V.length-1]?.getD 0:=dZ hg;have hgb:-500<=bz p V/\bz p V<=500:=by
   rw [hgv,List.getElem?_eq_getElem (by omega),Option.getD_some];exact hV _ (List.getElem_mem _)
  have er:r=(bz p V,1):=by
   refine iE r2 (je _ (by omega) (by omega)) ?_;rw [r1,bv,hgv];unfold exZ at hN;rw [show ((V.length:Int)-1)=((V.length-1:Nat):Int) by omega,Int.toNat_natCast] at hN
   grind
  rw [ea,er];simp only [Bool.true_and,Bool.and_eq_true,decide_eq_true_eq,and_true];omega
 have hall:∀ c,c<=V.length-2->∃ l,excL V X 1 c=some l/\∀ e ∈ l,e.1<=0:=by
  intro c
  induction c with
  | zero=>intro _;exact ⟨[],rfl,fun e he=>by cases he⟩
  | succ c ih =>
    intro hc;obtain ⟨l,l1,l2⟩:=ih (by omega);obtain ⟨r,e,e1,e2,e3,e4⟩:=od hX h5 hM1 hM2 hfr hb hV (s:=1+c) (by omega);refine ⟨l++[e],du l1 e2,fun x hx=>?_⟩
    rcases List.mem_append.1 hx with h|h
    ·exact l2 x h
    ·rw [List.mem_singleton] at h;subst h;refine val_neg0 e3 ?_;rw [e4];refine hE _ ?_;unfold exL seqI;rw [List.map_map];exact List.mem_map.2 ⟨c,List.mem_range.2 (by omega),by show exZ _ _ _ (1+(c:Int))=_;congr 1⟩
 obtain ⟨l,l1,l2⟩:=hall (V.length-2) (Nat.le_refl _);unfold et;rw [jH hpay,l1];exact List.all_eq_true.2 fun e he=>decide_eq_true (l2 e he)
theorem denB_4:∀ n:Fin 5,denB n.val 1<=2048:=by decide
theorem zs_one:∀ q:Fin 5,∀ i:Fin 4,∀ j:Fin 4,i.val<q.val->hasP ((2 ^ i.val:Nat):Int) ((j.val:Nat):Int)=decide (j.val=i.val):=by decide +kernel
theorem pB:∀ q:Fin 6,∀ i:Fin 5,i.val<q.val->hasP ((cN q.val:Int)-1) ((i.val:Nat):Int)=true:=by decide +kernel
theorem pow_in:∀ q:Fin 5,∀ i:Fin 4,2<=q.val->i.val<q.val->1<=2 ^ i.val/\2 ^ i.val<cN q.val-1:=by decide
theorem exL_low {V:List Int} {q:Nat} {y z:Nat->Rat} (h:More (exL q V y) (exL q V z)) (hz:∀ e ∈ exL q V z,e<=0):∀ e ∈ exL q V y,e<=0:=by
 obtain ⟨t,h1,h2⟩:=h;have ht:t<0:=by
  refine Classical.byContradiction fun hn=>?_
  have:eO t (exL q V z)=0:=kT fun x hx=>by have:=hz x hx;grind
  omega
 intro e he;refine Classical.byContradiction fun hn=>?_
 have h3:=h1 e (by grind);have h4:eG e (exL q V z)=0:=kS fun x hx=>by have:=hz x hx;grind
 have h5:0<eG e (exL q V y):=by
  unfold eG;exact List.countP_pos_iff.2 ⟨e,he,decide_eq_true Rat.le_refl⟩
 omega
theorem pay_low {q:Nat} {V:List Int} {y:Nat->Rat} (h2:2<=q) (h4:q<=4) (hV:V.length=cN q) (hb:∀ x ∈ V,-500<=x/\x<=500) (hN:exZ q V y ((V.length:Int)-1)=0) (hE:∀ e ∈ exL q V y,e<=0):∀ i,i<q->-500<=y i/\y i<=2500:=by
 have hvb:∀ s:Nat,(-500:Rat)<=((V[s]?.getD 0:Int):Rat)/\((V[s]?.getD 0:Int):Rat)<=500:=fun s=>by
  have:-500<=V[s]?.getD 0/\V[s]?.getD 0<=500:=by
   by_cases hl:s<V.length
   ·rw [List.getElem?_eq_getElem hl,Option.getD_some];exact hb _ (List.getElem_mem hl)
   ·rw [List.getElem?_eq_none (by omega)];simp
  have e1:((-500:Int):Rat)=-500:=rfl;have e2:((500:Int):Rat)=500:=rfl;rw [<-e1,<-e2];exact ⟨Rat.intCast_le_intCast.2 this.1,Rat.intCast_le_intCast.2 this.2⟩
 have hlow:∀ i,i<q->-500<=y i:=by
  intro i hi;have hp:=pow_in ⟨q,by omega⟩ ⟨i,by omega⟩ h2 hi;simp only at hp;have he:exZ q V y ((2 ^ i:Nat):Int)<=0:=by
   refine hE _ ?_;unfold exL seqI;rw [List.map_map];exact List.mem_map.2 ⟨2 ^ i-1,List.mem_range.2 (by omega),by show exZ _ _ _ (1+((2 ^ i-1:Nat):Int))=_;congr 1;omega⟩
  have hz:zs q y ((2 ^ i:Nat):Int)=y i:=by
   unfold zs;rw [fk hi (fun k hk hne=>by rw [zs_one ⟨q,by omega⟩ ⟨i,by omega⟩ ⟨k,by omega⟩ hi];simp only;rw [decide_eq_false (by omega)];show _*((0:Int):Rat)=0;grind)];rw [zs_one ⟨q,by omega⟩ ⟨i,by omega⟩ ⟨i,by omega⟩ hi,decide_eq_true rfl]
   show _*((1:Int):Rat)=_
   grind
  unfold exZ at he;rw [hz,Int.toNat_natCast] at he;have:=(hvb (2 ^ i)).1
  grind
 have hsum:sumN y q=((V[V.length-1]?.getD 0:Int):Rat):=by
  have hz:zs q y ((V.length:Int)-1)=sumN y q:=by
   unfold zs;refine av fun i hi=>?_
   rw [hV,pB ⟨q,by omega⟩ ⟨i,by omega⟩ hi]
   show _*((1:Int):Rat)=_
   grind
  unfold exZ at hN;rw [hz,show ((V.length:Int)-1)=((V.length-1:Nat):Int) by have:=cX q (by omega);omega,Int.toNat_natCast] at hN
  grind
 have hg:=(hvb (V.length-1)).2;rw [<-hsum] at hg;intro i hi;refine ⟨hlow i hi,?_⟩;have a0:=hlow 0 (by omega);have a1:=hlow 1 (by omega)
 match q,h2,h4,hi with
 | 2,_,_,hi =>
   simp only [sumN] at hg
   match i,hi with
   | 0,_=>grind
   | 1,_=>grind
 | 3,_,_,hi =>
   have a2:=hlow 2 (by omega);simp only [sumN] at hg
   match i,hi with
   | 0,_=>grind
   | 1,_=>grind
   | 2,_=>grind
 | 4,_,_,hi =>
   have a2:=hlow 2 (by omega);have a3:=hlow 3 (by omega);simp only [sumN] at hg
   match i,hi with
   | 0,_=>grind
   | 1,_=>grind
   | 2,_=>grind
   | 3,_=>grind
theorem nuc_core {p:Int} {V:List Int} {X:List (Int × Int)} (h4:p<=4) (hok:(nucR p V).ok=true) (hx:et p V X=true):et p V (nucR p V).pt=true:=by
 have hpay:payP p V X=true:=by
  unfold et at hx;cases ha:allX p V X with
  | none=>rw [ha] at hx;cases hx
  | some l=>exact (dQ ha).1
 have hg:=fs hpay;obtain ⟨q,hpq,h1,h5,hlen,_,hV⟩:=bd hg;have hcn:=cX q h5;by_cases hp1:p=1
 ·have hq1:q=1:=by omega
  subst hq1;have e:(nucR p V).pt=[(bz p V,1)]:=by unfold nucR;rw [if_pos hg,if_pos hp1]
  rw [e];have hgv:bz p V=V[V.length-1]?.getD 0:=dZ hg;have hl2:V.length=2:=hlen;have hgb:-500<=bz p V/\bz p V<=500:=by
   rw [hgv,List.getElem?_eq_getElem (by omega),Option.getD_some];exact hV _ (List.getElem_mem _)
  refine mM (q:=1) (M:=1) (m:=fun _=>bz p V) hpq hg rfl (fun x hx=>?_) (by omega) (by omega) (fun i hi=>?_) (fun i hi=>by omega) ?_ ?_
  ·rw [List.mem_singleton] at hx;rw [hx];exact je _ (by omega) (by omega)
  ·obtain rfl:i=0:=by omega
   exact Fr.int _ (by omega) (by omega)
  ·unfold exZ zs;rw [hl2];simp only [sumN]
   show ((V[1]?.getD 0:Int):Rat)-(0+val (bz p V,1)*((1:Int):Rat))=0;rw [bv,hgv,hl2]
   grind
  ·intro e he;unfold exL at he;rw [hl2] at he;cases he
 ·have e:nucR p V=nucF p V ((frN V []).length+1) [] 0:=by unfold nucR;rw [if_pos hg,if_neg hp1]
  rw [e] at hok ⊢;have hpt:p.toNat=q:=by omega
  obtain ⟨m1,_,m3,m4⟩:=eK hok;obtain ⟨t1,t2⟩:=nuc_ptv hok;obtain ⟨M,d1,d2,d3⟩:=nuc_den hg hok;rw [hpt] at m1 m4 t1 d2 d3;have hM:M<=2048:=Nat.le_trans d2 (denB_4 ⟨q,by omega⟩);have hX0:∀ e ∈ exL q V (fun i=>val (X[i]?.getD (0,0))),e<=0:=by
   unfold et at hx;cases ha:allX p V X with
   | none=>rw [ha] at hx;cases hx
   | some l =>
     rw [ha] at hx;have hl:=fL ha;rw [hpt] at hl;rw [<-hl];intro e he;obtain ⟨x,hx1,rfl⟩:=List.mem_map.1 he;have hxn:=of_decide_eq_true (List.all_eq_true.1 hx x hx1);refine val_neg1 ?_ hxn;exact fM ha x hx1
  have hXm:=nj hpay;rw [hpt] at hXm;have hY0:∀ e ∈ exL q V (fun i=>val ((nucF p V ((frN V []).length+1) [] 0).pt[i]?.getD (0,0))),e<=0:=by
   rcases m4 _ hXm with hm|hm
   ·have hu:=hJ hg (iR hok) (y:=fun i=>val ((nucF p V ((frN V []).length+1) [] 0).pt[i]?.getD (0,0))) (z:=fun i=>val (X[i]?.getD (0,0))) (by rw [hpt];exact m1) (by rw [hpt];exact hm);rw [hpt] at hu;rw [mT hu];exact hX0
   ·exact exL_low hm hX0
  have hN:=m1.grand;have hbd:=pay_low (by omega) (by omega) hlen hV hN hY0;obtain ⟨m,hm⟩:∃ m:Nat->Int,∀ i,i<q->(M:Rat)*val ((nucF p V ((frN V []).length+1) [] 0).pt[i]?.getD (0,0))=(m i:Rat):=by
   refine ⟨fun i=>if h:i<q then (d3 i h).choose else 0,fun i hi=>?_⟩;simp only [hi,dif_pos];exact (d3 i hi).choose_spec
  have hvt:∀ i,i<q->valR ((nucF p V ((frN V []).length+1) [] 0).pt[i]?.getD (0,0))=true:=fun i hi=>by
   have hil:i<(nucF p V ((frN V []).length+1) [] 0).pt.length:=by omega
   rw [List.getElem?_eq_getElem hil,Option.getD_some];exact t2 _ (List.getElem_mem hil)
  refine mM hpq hg t1 t2 d1 hM (fun i hi=>fr_of (hvt i hi) d1 (hm i hi)) (fun i hi=>?_) hN hY0;have:=hm i hi;obtain ⟨b1,b2⟩:=hbd i hi;generalize val ((nucF p V ((frN V []).length+1) [] 0).pt[i]?.getD (0,0))=x at this b1 b2;have hMr:(1:Rat)<=(M:Rat)/\(M:Rat)<=2048:=by constructor <;> exact_mod_cast (by omega)
  have c1:(M:Rat)*x<=(M:Rat)*2500:=Rat.mul_le_mul_of_nonneg_left b2 (by grind);have c2:(M:Rat)*(-500)<=(M:Rat)*x:=Rat.mul_le_mul_of_nonneg_left b1 (by grind);rw [this] at c1 c2;have c3:(m i:Rat)<=((5120000:Int):Rat):=by
   have:((5120000:Int):Rat)=5120000:=rfl;rw [this];grind
  have c4:((-1024000:Int):Rat)<=(m i:Rat):=by
   have:((-1024000:Int):Rat)=-1024000:=rfl;rw [this];grind
  have c3:m i<=5120000:=Rat.intCast_le_intCast.1 c3;have c4:-1024000<=m i:=Rat.intCast_le_intCast.1 c4;omega
def dR (n k:Nat):List Int:=memR (seqI 1 (n-2)) k++[-1]
def bS (q n:Nat):List (List Int):=(List.range q).map (dR n)++[List.replicate (n-2) 1++[0]]
def eA (q:Nat):List Int:=List.replicate q 0++[1]
def co (p:Int) (V:List Int):List (Int × Int):=(dH V).take (V.length-2)++[(bz p V,1)]
def bW (p:Int) (V:List Int):LpR:=bO aK (bS p.toNat V.length) (eA p.toNat) (co p V)
theorem iL {p:Int} {V:List Int} (h:2<=V.length):(co p V).length=V.length-1:=by unfold co dH;simp;omega
theorem iM {p:Int} {V:List Int} {j:Nat} (hj:j<V.length-2):(co p V)[j]?.getD (0,0)=(-(V[1+j]?.getD 0),1):=by
 unfold co;rw [List.getElem?_append_left (by unfold dH;simp;omega),List.getElem?_take,if_pos hj];unfold dH;rw [List.getElem?_map,List.getElem?_drop,List.getElem?_eq_getElem (by omega)]
 rfl
theorem iN {p:Int} {V:List Int} (h:2<=V.length):(co p V)[V.length-2]?.getD (0,0)=(bz p V,1):=by
 unfold co;have hl:((dH V).take (V.length-2)).length=V.length-2:=by unfold dH;simp;omega
 rw [List.getElem?_append_right (by omega),hl,Nat.sub_self]
 rfl
theorem ri {p:Int} {V:List Int} (h:aN p V=true):bO aK (bS p.toNat V.length) (eA p.toNat) (co p V)=eB (bS p.toNat V.length) (eA p.toNat) (co p V):=by
 obtain ⟨q,hpq,h1,h5,hlen,_,hb⟩:=bd h;have hcn:=cX q h5;have h2:2<=V.length:=by
  rw [hlen];have:∀ n:Fin 6,1<=n.val->2<=cN n.val:=by decide
  exact this ⟨q,by omega⟩ h1
 refine lU fun _ j hj=>?_
 rw [iL h2] at hj;by_cases hjt:j<V.length-2
 ·have hm:=hb _ (List.getElem_mem (show 1+j<V.length by omega));refine Or.inl ⟨-(V[1+j]?.getD 0),iM hjt,?_⟩;rw [List.getElem?_eq_getElem (by omega),Option.getD_some];omega
 ·obtain rfl:j=V.length-2:=by omega
  have hm:=hb _ (List.getElem_mem (show V.length-1<V.length by omega));refine Or.inl ⟨bz p V,iN h2,?_⟩;rw [dZ h,List.getElem?_eq_getElem (by omega),Option.getD_some];omega
theorem qi {q n i j:Nat} (hi:i<q) (hj:j<n-2):ent (bS q n) i j=bitI (hasP (1+(j:Int)) (i:Int)):=by
 unfold ent bS;rw [List.getElem?_append_left (by simpa using hi),List.getElem?_map,List.getElem?_range hi,Option.map_some,Option.getD_some];unfold dR memR seqI;rw [List.getElem?_append_left (by simpa using hj),List.getElem?_map,List.getElem?_map,List.getElem?_range hj]
 rfl
theorem qk {q n i:Nat} (hi:i<q):ent (bS q n) i (n-2)=-1:=by
 unfold ent bS;rw [List.getElem?_append_left (by simpa using hi),List.getElem?_map,List.getElem?_range hi,Option.map_some,Option.getD_some];unfold dR memR seqI;rw [List.getElem?_append_right (by simp)];simp
theorem oc {q n j:Nat} (hj:j<n-2):ent (bS q n) q j=1:=by
 unfold ent bS;rw [List.getElem?_append_right (by simp)];simp only [List.length_map,List.length_range,Nat.sub_self,List.getElem?_cons_zero,Option.getD_some];rw [List.getElem?_append_left (by simpa using hj),List.getElem?_replicate,if_pos hj]
 rfl
theorem lg {q n:Nat}:ent (bS q n) q (n-2)=0:=by
 unfold ent bS;rw [List.getElem?_append_right (by simp)];simp only [List.length_map,List.length_range,Nat.sub_self,List.getElem?_cons_zero,Option.getD_some];rw [List.getElem?_append_right (by simp)];simp
theorem lz {p:Int} {V:List Int} (hs:(bW p V).status=1):Cert (bS p.toNat V.length) (eA p.toNat) (co p V) (bW p V):=by
 obtain ⟨v1,_,v3,_⟩:=dq hs;exact mb v1 v3 hs
theorem fF (q n:Nat):(bS q n).length=q+1:=by unfold bS;simp
theorem lv {q i:Nat} (hi:i<q):(eA q)[i]?.getD 0=0:=by unfold eA;rw [List.getElem?_append_left (by simpa using hi),List.getElem?_replicate,if_pos hi];rfl
theorem lw {q:Nat}:(eA q)[q]?.getD 0=1:=by unfold eA;rw [List.getElem?_append_right (by simp)];simp
theorem pC {q:Nat} (hq:q<=5) {z:Nat->Rat}:zs q z ((cN q:Int)-1)=sumN z q:=by
 unfold zs;refine av fun i hi=>?_
 rw [pB ⟨q,by omega⟩ ⟨i,by omega⟩ hi]
 show _*((1:Int):Rat)=_
 grind
theorem jd:∀ n:Fin 6,2<=n.val->4<=cN n.val:=by decide
theorem rm {p:Int} {V:List Int} (hg:aN p V=true) (hp:2<=p) (hs:(bW p V).status=1) {z:Nat->Rat} (hz:exZ p.toNat V z ((V.length:Int)-1)=0) :
 sumN (fun j=>vrow (bW p V).X j*exZ p.toNat V z (1+(j:Int))) (V.length-2)=- val (bW p V).value/\sumN (fun j=>vrow (bW p V).X j) (V.length-2)=1/\∀ j,j<V.length-2->0<=vrow (bW p V).X j:=by
 have hce:=lz hs;obtain ⟨q,hpq,h1,h5,hlen,_,hb⟩:=bd hg;have hpt:p.toNat=q:=by omega
 have h4:=jd ⟨q,by omega⟩ (show 2<=q by omega);simp only at h4;obtain ⟨m,hm⟩:∃ m,m=V.length-2:=⟨_,rfl⟩;have hCl:(co p V).length=m+1:=by rw [iL (by omega)];omega
 rw [hpt] at hce hz ⊢;obtain ⟨r,hr⟩:∃ r,r=bW p V:=⟨_,rfl⟩;rw [<-hr] at hce ⊢;have hcl:∀ j,j<m->vrow (co p V) j=- ((V[1+j]?.getD 0:Int):Rat):=fun j hj=>by unfold vrow;rw [iM (by omega),bv,Rat.intCast_neg]
 have hct:vrow (co p V) m=((V[V.length-1]?.getD 0:Int):Rat):=by unfold vrow;rw [hm,iN (by omega),bv,dZ hg]
 have hgz:sumN z q=((V[V.length-1]?.getD 0:Int):Rat):=by
  unfold exZ at hz;rw [show ((V.length:Int)-1)=((V.length-1:Nat):Int) by omega,Int.toNat_natCast,show ((V.length-1:Nat):Int)=(cN q:Int)-1 by omega,pC h5] at hz
  grind
 have hrow:∀ i,i<q->sumN (fun j=>((bitI (hasP (1+(j:Int)) (i:Int)):Int):Rat)*vrow r.X j) m=vrow r.X m:=fun i hi=>by
  have:=hce.row i (by rw [fF];omega);rw [hCl,lv hi] at this;simp only [sumN] at this;rw [show (ent (bS q V.length) i m:Int)=-1 by rw [hm];exact qk hi] at this;have e:sumN (fun j=>((ent (bS q V.length) i j:Int):Rat)*vrow r.X j) m=sumN (fun j=>((bitI (hasP (1+(j:Int)) (i:Int)):Int):Rat)*vrow r.X j) m:=av fun j hj=>by rw [qi hi (by omega)]
  rw [e] at this;have e1:((-1:Int):Rat)=-1:=rfl;have e0:((0:Int):Rat)=0:=rfl;rw [e1,e0] at this
  grind
 have hone:sumN (fun j=>vrow r.X j) m=1:=by
  have:=hce.row q (by rw [fF];omega);rw [hCl,lw] at this;simp only [sumN] at this;rw [show (ent (bS q V.length) q m:Int)=0 by rw [hm];exact lg] at this;have e:sumN (fun j=>((ent (bS q V.length) q j:Int):Rat)*vrow r.X j) m=sumN (fun j=>vrow r.X j) m:=av fun j hj=>by
   rw [oc (by omega)]
   show ((1:Int):Rat)*_=_
   grind
  rw [e] at this;have e0:((0:Int):Rat)=0:=rfl;have e1:((1:Int):Rat)=1:=rfl;rw [e0,e1] at this
  grind
 have hval:=hce.cx;rw [hCl] at hval;simp only [sumN] at hval;rw [hct] at hval;have hzs:sumN (fun j=>vrow r.X j*zs q z (1+(j:Int))) m=vrow r.X m*sumN z q:=by
  have e:sumN (fun j=>vrow r.X j*zs q z (1+(j:Int))) m=sumN (fun j=>sumN (fun i=>z i*(((bitI (hasP (1+(j:Int)) (i:Int)):Int):Rat)*vrow r.X j)) q) m:=av fun j hj=>by
   unfold zs;rw [<-dC];exact av fun i hi=>by grind
  rw [e,jE (fun i j=>z i*(((bitI (hasP (1+(j:Int)) (i:Int)):Int):Rat)*vrow r.X j)) q m,<-dC];refine av fun i hi=>?_
  rw [dC,hrow i hi]
  grind
 have hspl:sumN (fun j=>vrow r.X j*exZ q V z (1+(j:Int))) m=- sumN (fun j=>vrow (co p V) j*vrow r.X j) m+(-1)*sumN (fun j=>vrow r.X j*zs q z (1+(j:Int))) m:=by
  rw [<-fj,<-dB];refine av fun j hj=>?_
  rw [hcl j hj];unfold exZ;rw [show (1+(j:Int)).toNat=1+j by omega]
  grind
 rw [<-hm];refine ⟨?_,hone,fun j hj=>hce.x0 j (by omega)⟩;rw [hspl,hzs,hgz]
 grind
theorem least_pt {p:Int} {V:List Int} (hg:aN p V=true) (hp:2<=p) (hs:(bW p V).status=1) :
 ∃ z,exZ p.toNat V z ((V.length:Int)-1)=0/\∀ j:Nat,j<V.length-2->exZ p.toNat V z (1+(j:Int))<=- val (bW p V).value:=by
 have hce:=lz hs;obtain ⟨q,hpq,h1,h5,hlen,_,hb⟩:=bd hg;have hpt:p.toNat=q:=by omega
 have h4:=jd ⟨q,by omega⟩ (show 2<=q by omega);simp only at h4;obtain ⟨m,hm⟩:∃ m,m=V.length-2:=⟨_,rfl⟩;have hCl:(co p V).length=m+1:=by rw [iL (by omega)];omega
 rw [hpt] at hce ⊢;obtain ⟨r,hr⟩:∃ r,r=bW p V:=⟨_,rfl⟩;rw [<-hr] at hce ⊢;have hv:val r.value=vrow r.Y q:=by
  rw [hce.yb,fF];simp only [sumN];rw [eo (fun i hi=>by rw [lv hi];show _*((0:Int):Rat)=0;have e0:((0:Int):Rat)=0:=rfl;rw [e0];grind),lw];have e1:((1:Int):Rat)=1:=rfl;rw [e1];grind
 have hcol:∀ j,j<m->exZ q V (fun i=>- vrow r.Y i) (1+(j:Int))<=- val r.value:=fun j hj=>by
  have:=hce.col j (by omega);rw [fF] at this;simp only [sumN] at this;rw [oc (by omega)] at this;have e:sumN (fun i=>vrow r.Y i*((ent (bS q V.length) i j:Int):Rat)) q=- zs q (fun i=>- vrow r.Y i) (1+(j:Int)):=by
   unfold zs;rw [<-fj];exact av fun i hi=>by rw [qi hi (by omega)];grind
  have ec:vrow (co p V) j=- ((V[1+j]?.getD 0:Int):Rat):=by unfold vrow;rw [iM (by omega),bv,Rat.intCast_neg]
  rw [e,ec] at this;have e1:((1:Int):Rat)=1:=rfl;rw [e1] at this;unfold exZ;rw [show (1+(j:Int)).toNat=1+j by omega,hv]
  grind
 have hsum:0<=exZ q V (fun i=>- vrow r.Y i) ((V.length:Int)-1):=by
  have:=hce.col m (by omega);rw [fF] at this;simp only [sumN] at this;rw [show (ent (bS q V.length) q m:Int)=0 by rw [hm];exact lg] at this;have e:sumN (fun i=>vrow r.Y i*((ent (bS q V.length) i m:Int):Rat)) q=sumN (fun i=>- vrow r.Y i) q:=av fun i hi=>by
   rw [show (ent (bS q V.length) i m:Int)=-1 by rw [hm];exact qk hi];have e1:((-1:Int):Rat)=-1:=rfl;rw [e1];grind
  have ec:vrow (co p V) m=((V[V.length-1]?.getD 0:Int):Rat):=by unfold vrow;rw [hm,iN (by omega),bv,dZ hg]
  rw [e,ec] at this;have e0:((0:Int):Rat)=0:=rfl;rw [e0] at this;unfold exZ;rw [show ((V.length:Int)-1)=((V.length-1:Nat):Int) by omega,Int.toNat_natCast,show ((V.length-1:Nat):Int)=(cN q:Int)-1 by omega,pC h5]
  grind
 obtain ⟨d,hd⟩:∃ d,d=exZ q V (fun i=>- vrow r.Y i) ((V.length:Int)-1):=⟨_,rfl⟩;rw [<-hd] at hsum;have hds:∀ s:Int,zs q (fun i=>if i=0 then d else 0) s=d*((bitI (hasP s 0):Int):Rat):=fun s=>by
  unfold zs;rw [fk (i:=0) (by omega) (fun k hk hne=>by simp only;rw [if_neg hne];grind)]
  show (if (0:Nat)=0 then d else 0)*((bitI (hasP s ((0:Nat):Int)):Int):Rat)=_;rw [if_pos rfl]
  rfl
 refine ⟨fun i=>(- vrow r.Y i)+(if i=0 then d else 0),?_,fun j hj=>?_⟩
 ·rw [gV,<-hd,hds,show ((V.length:Int)-1)=(cN q:Int)-1 by omega];have this:hasP ((cN q:Int)-1) 0=true:=pB ⟨q,by omega⟩ ⟨0,by omega⟩ (show 0<q by omega);rw [this]
  show d-d*((1:Int):Rat)=0;have e1:((1:Int):Rat)=1:=rfl;rw [e1];grind
 ·rw [gV,hds];have h0:=hcol j (by omega);have:0<=d*((bitI (hasP (1+(j:Int)) 0):Int):Rat):=by
   cases hasP (1+(j:Int)) 0 with
   | true=>show 0<=d*((1:Int):Rat);have e1:((1:Int):Rat)=1:=rfl;rw [e1];grind
   | false=>show 0<=d*((0:Int):Rat);have e0:((0:Int):Rat)=0:=rfl;rw [e0];grind
  grind
theorem kq (V:List Int):frN V []=seqI 1 (V.length-2):=by
 unfold frN aM;exact List.filter_eq_self.2 fun s _=>rfl
theorem kK (k:Int) (n i:Nat) (h:i<n):(seqI k n)[i]?.getD 0=k+(i:Int):=by
 unfold seqI;rw [List.getElem?_map,List.getElem?_range h]
 rfl
theorem pR {p:Int} {V:List Int} {l:List (Int × Int)} (hp:2<=p) (hok:(nucR p V).ok=true) (ha:allX p V (nucR p V).pt=some l) (hs:(bW p V).status=1) :
 0<(srtX l).length/\(srtX l)[0]?.getD (0,0)=negR (bW p V).value:=by
 obtain ⟨hpay,hll⟩:=dQ ha;have hg:=fs hpay;obtain ⟨q,hpq,h1,h5,hlen,_,hb⟩:=bd hg;have hpt:p.toNat=q:=by omega
 have h4:=jd ⟨q,by omega⟩ (show 2<=q by omega);simp only at h4;have e:nucR p V=nucF p V ((frN V []).length+1) [] 0:=by unfold nucR;rw [if_pos hg,if_neg (by omega)]
 have hexl:=fL ha;rw [e] at hok ha hexl;obtain ⟨m1,_,m3,_⟩:=eK hok;have hok0:stOk p V []=true/\(an p.toNat V []).status=1:=by
  false_or_by_contra
  rename_i hno
  rw [nucF,if_neg hno] at hok;cases hok
 obtain ⟨z,z1,z2⟩:=least_pt hg hp hs;obtain ⟨k1,k2,k3⟩:=fz hok0.1 hok0.2 (z:=z) ⟨z1,fun f hf=>by cases hf⟩;obtain ⟨n1,n2,n3⟩:=rm hg hp hs m1.grand;rw [kq] at k1 k2 k3;have hsl:(seqI 1 (V.length-2)).length=V.length-2:=by unfold seqI;simp
 have hle1:- val (an p.toNat V []).value<=- val (bW p V).value:=by
  rw [<-k1];refine jM k2 k3 fun j hj=>?_
  rw [hsl] at hj;rw [kK _ _ _ hj];exact z2 j hj
 have hle2:- val (bW p V).value<=- val (an p.toNat V []).value:=by
  rw [<-n1];refine jM n2 n3 fun j hj=>?_
  refine m3 _ ?_;rw [kq];rw [<-kK 1 (V.length-2) j hj,List.getElem?_eq_getElem (by omega),Option.getD_some];exact List.getElem_mem _
 have hlv:=fM ha;have hsort:=is hlv l.length (Nat.le_refl _);have hmem:∀ y ∈ srtX l,y ∈ l:=fun y hy=>(eM l).mem_iff.1 hy
 have hpos:0<(srtX l).length:=by rw [ib];omega
 refine ⟨hpos,?_⟩;obtain ⟨x,hx⟩:∃ x,x=(srtX l)[0]:=⟨_,rfl⟩;rw [List.getElem?_eq_getElem hpos,Option.getD_some,<-hx];have hxm:x ∈ l:=hmem _ (by rw [hx];exact List.getElem_mem _);obtain ⟨_,_,v3,_,v5,_⟩:=dq hs;have v5:valR (bW p V).value=true:=v5;refine iE (hlv x hxm) (by rw [cn];exact v5) ?_;rw [cL];have hup:val x<=- val (an p.toNat V []).value:=by
  have hxe:val x ∈ exL p.toNat V (fun i=>val ((nucF p V ((frN V []).length+1) [] 0).pt[i]?.getD (0,0))):=by rw [<-hexl];exact List.mem_map.2 ⟨x,hxm,rfl⟩
  unfold exL at hxe;obtain ⟨s,hs1,hs2⟩:=List.mem_map.1 hxe;rw [<-hs2];exact m3 s (by rw [kq];exact hs1)
 have hlow:- val (bW p V).value<=val x:=by
  rw [<-n1];refine jM n2 n3 fun j hj=>?_
  have hxe:exZ p.toNat V (fun i=>val ((nucF p V ((frN V []).length+1) [] 0).pt[i]?.getD (0,0))) (1+(j:Int)) ∈ l.map val:=by
   rw [hexl];unfold exL;refine List.mem_map.2 ⟨1+(j:Int),?_,rfl⟩;rw [<-kK 1 (V.length-2) j hj,List.getElem?_eq_getElem (by omega),Option.getD_some];exact List.getElem_mem _
  obtain ⟨y,hy1,hy2⟩:=List.mem_map.1 hxe;rw [<-hy2];obtain ⟨i,hi,hyi⟩:=List.mem_iff_getElem.1 ((eM l).mem_iff.2 hy1)
  rcases Nat.eq_zero_or_pos i with rfl|hi0
  ·rw [hx,hyi];exact Rat.le_refl
  ·have hpw:=List.pairwise_iff_getElem.1 hsort 0 i hpos hi hi0;have hpw:geR (srtX l)[0] (srtX l)[i]=true:=hpw;rw [<-hx,hyi] at hpw;exact (fO (hlv x hxm) (hlv y hy1)).1 hpw
 grind
end Go.Proofs.YthjjfkeacobikaaGreat
