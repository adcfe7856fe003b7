import Derived.Test.YtalmoolkhcgmmaaGreatNqAltG12
import Derived.Test.YtalmoolkhcgmmaaGreatNqAltG10
import Derived.Test.YtalmoolkhcgmmaaGreatNqAltG0
import Derived.Test.YtalmoolkhcgmmaaGreatNqAltG4
set_option linter.unusedVariables false
set_option linter.unusedSimpArgs false
namespace Go.Proofs.YtalmoolkhcgmmaaGreat
variable{a b c:k5}{d x D y E z F:Int}{n m j:Nat}{r cost Y C:j6}{T0:Nat->Nat->Rat}{A:j7}{B:j9}
def wR(r:k5):k5:=(-r.1,r.2)
structure Tb  where
 rows:List (j6)
 basis:j9
 q8:Int
def Tb.row(t:Tb)(i:Nat):j6:=t.rows[i]?.getD []
def Tb.at(t:Tb)(i j:Nat):k5:=(t.row i)[j]?.getD (0,0)
variable{t:Tb}
def AG(t:Tb):Bool :=
 wJ t.q8 0 1000&&(decide (t.basis.length=t.rows.length)&&(t.basis.all (fun b=>wJ b 0 (t.q8+t.rows.length-1))&&t.rows.all (fun r=>decide ((r.length:Int)=t.q8+t.rows.length+1))))
def DI(A:j6)(p:k5)(i:Nat):Option (Int×Int):=if(yH (A[i]?.getD (0,0)) p).2=true then some (yH (A[i]?.getD (0,0)) p).1 else none
def Bo(A:j6)(p:k5):Option (j6):=runT (DI A p) A.length
def Jq(t:Tb)(row wX:Nat)(main:j6)(st:List (j6))(i:Nat):Option (List (j6)) :=
 if(i=row∨t.at i wX=(0,1)) then some st else(zo (t.row i) (wR (t.at i wX)) main).map fun r=>st.set i r
def y7(t:Tb)(row wX:Nat)(main:j6):Nat->Option (List (j6))
 | 0=>some (t.rows.set row main)
 | k+1=>(y7 t row wX main k).bind fun st=>Jq t row wX main st k
def fD(t:Tb)(row wX:Nat):Option Tb :=
 (Bo (t.row row) (t.at row wX)).bind fun main=>(y7 t row wX main t.rows.length).map fun rs=>⟨rs,t.basis.set row (wX:Int),t.q8⟩
def dN(t:Tb)(row wX:Int):Bool:=AG t&&(wJ row 0 (t.rows.length-1)&&wJ wX 0 (t.q8+t.rows.length-1))
def bo(t:Tb)(row wX:Int):Option Tb:=if dN t row wX=true then fD t row.toNat wX.toNat else none
def cO(t:Tb)(cost:j6):Nat->Option (j6)
 | 0=>some (cost++[(0,1)])
 | k+1=>(cO t cost k).bind fun out=>zo out (wR (cost[(t.basis[k]?.getD 0).toNat]?.getD (0,0))) (t.row k)
def jm(t:Tb)(cost:j6):Bool:=AG t&&(decide ((cost.length:Int)=t.q8+t.rows.length)&&yz cost)
def bS(t:Tb)(cost:j6):Option (j6):=if jm t cost=true then cO t cost t.rows.length else none
def yM(t:Tb):Nat->j6
 | 0=>List.replicate (t.q8.toNat+t.rows.length) (0,1)
 | k+1=>(yM t k).set (t.basis[k]?.getD 0).toNat (t.at k (t.q8.toNat+t.rows.length))
def xV(t:Tb):j6:=if AG t=true then yM t t.rows.length else []
def el(c:k5):Bool:=decide (wU c (0,1)<0)
def aX(costs:j6)(last:Int):Int:=if(costs.length:Int)<last then -1 else bU el (costs.take last.toNat)
def dG(t:Tb)(wX:Nat)(st:Int×(Int×Int))(i:Nat):Int×(Int×Int) :=
 if wU (t.at i wX) (0,1)<=0 then st
 else if(yH (t.at i (t.q8.toNat+t.rows.length)) (t.at i wX)).2=false then st
 else if st.1<0∨wU (yH (t.at i (t.q8.toNat+t.rows.length)) (t.at i wX)).1 st.2<0∨(wU (yH (t.at i (t.q8.toNat+t.rows.length)) (t.at i wX)).1 st.2=0/\t.basis[i]?.getD 0<t.basis[st.1.toNat]?.getD 0)
  then((i:Int),(yH (t.at i (t.q8.toNat+t.rows.length)) (t.at i wX)).1) else st
def bO(t:Tb)(wX:Nat):Nat->Int×(Int×Int)
 | 0=>(-1,(0,0))
 | k+1=>dG t wX (bO t wX k) k
def bP(t:Tb)(wX:Int):Int:=if(AG t&&wJ wX 0 (t.q8+t.rows.length-1))=true then(bO t wX.toNat t.rows.length).1 else -1
structure Ph  where
 t:Tb
 left:Nat
 costs:j6
 wX:Int
def aJ(cost:j6):Nat->Tb->Option Ph
 | f,t=>match bS t cost with
   | none=>none
   | some cs =>
     if aX cs t.q8<0 then some ⟨t,f,cs,-1⟩
     else if bP t (aX cs t.q8)<0 then some ⟨t,f,cs,aX cs t.q8⟩
     else match f with
      | 0=>none
      | f+1=>match bo t (bP t (aX cs t.q8)) (aX cs t.q8)with
        | none=>none
        | some t'=>aJ cost f t'
def Al(c:k5):Bool:=decide (c≠(0,1))
def gl(n:Nat)(s:Tb×Nat)(k:Nat):Option (Tb×Nat) :=
 if s.1.basis[k]?.getD 0<n then some s
 else if bU Al ((s.1.row k).take n)<0 then some s
 else match s.2 with
  | 0=>none
  | f+1=>(bo s.1 k (bU Al ((s.1.row k).take n))).map fun t=>(t,f)
def br(n:Nat)(s:Tb×Nat):Nat->Option (Tb×Nat)
 | 0=>some s
 | k+1=>(br n s k).bind fun s'=>gl n s' k
def ys(b:Int):Int:=if b<0 then -1 else 1
def nz(m i:Nat):j6:=(List.range m).map fun k=>if k=i then(1,1) else(0,1)
def cn(A:j7)(B:j9)(i:Nat):j6 :=
 ((A[i]?.getD []).map fun x=>(ys (B[i]?.getD 0)*x,1))++nz A.length i++[(ys (B[i]?.getD 0)*B[i]?.getD 0,1)]
def bF(A:j7)(B:j9)(n:Nat):Tb:=⟨(List.range A.length).map (cn A B),(List.range A.length).map fun i=>((n+i:Nat):Int),n⟩
def zA(A B:j6):Nat->Option (Int×Int)
 | 0=>some (0,1)
 | k+1=>(zA A B k).bind fun s=>if(mulR (A[k]?.getD (0,0)) (B[k]?.getD (0,0))).2=true/\(xP s (mulR (A[k]?.getD (0,0)) (B[k]?.getD (0,0))).1).2=true
     then some (xP s (mulR (A[k]?.getD (0,0)) (B[k]?.getD (0,0))).1).1 else none
def wY(A B:j6):Option (Int×Int):=if A.length=B.length then zA A B A.length else none
def xF(A:j7)(B:j9)(C:j6):Bool :=
 decide (C.length<=70)&&(decide (A.length<=8)&&(decide (B.length=A.length)&&(yz C&&(A.all (fun r=>decide (r.length=C.length)&&r.all (wJ · (-5000) 5000))&&B.all (wJ · (-5000) 5000)))))
def xD(A:j7)(j:Nat):j9:=A.map fun r=>r[j]?.getD 0
def BC(x:j6):Bool:=x.all fun r=>o5 r&&decide (0<=r.1)
def dj(A:j7)(x:j6)(B:j9):Bool:=(List.range A.length).all fun i=>decide (wY (aw (A[i]?.getD [])) x=some (B[i]?.getD 0,1))
def dp(A:j7)(B:j9)(n:Nat)(x:j6):Bool:=decide (x.length=n)&&(BC x&&dj A x B)
structure AT  where
 status:Int
 X:j6
 Y:j6
 A5:j6
 value:k5
 Hp:Int
deriving DecidableEq
def be(s:Int):AT:=⟨s,[],[],[],(0,0),0⟩
def aV(A:j7)(Y C:j6)(j:Nat):Bool :=
 match wY Y (aw (xD A j))with
 | none=>false
 | some v=>(xy (C[j]?.getD (0,0)) v).2&&decide (0<=(xy (C[j]?.getD (0,0)) v).1.1)
def bj(A:j7)(Y C:j6)(j:Nat):Bool :=
 match wY Y (aw (xD A j))with
 | none=>false
 | some v=>decide (0<=wU (C[j]?.getD (0,0)) v)
def gR(B:j9)(C:j6)(r:AT):Bool :=
 match wY C r.X,wY r.Y (aw B)with
 | some x,some y=>decide (x=y)&&decide (x=r.value)
 | _,_=>false
def kO(A:j7)(B:j9)(n:Nat)(Y:j6):Bool :=
 (List.range n).all (fun j=>match wY Y (aw (xD A j))with|none=>false|some v=>decide (v.1<=0))&&(match wY Y (aw B)with|none=>false|some v=>decide (0<v.1))
def O6(A:j7)(B:j9)(C:j6)(A5:j6):Bool :=
 decide (A5.length=C.length)&&(BC A5&&(dj A A5 (List.replicate B.length 0)&&(match wY C A5 with|none=>false|some v=>decide (v.1<0))))
def aD(bound:j7->j6->j6->Nat->Bool)(A:j7)(B:j9)(C:j6)(r:AT):Bool :=
 if r.status=1 then dp A B C.length r.X&&(decide (r.Y.length=B.length)&&((List.range C.length).all (bound A r.Y C)&&gR B C r))
 else if r.status=2 then decide (r.Y.length=B.length)&&kO A B C.length r.Y
 else if r.status=3 then dp A B C.length r.X&&O6 A B C r.A5
 else false
def Ac(b:Int)(y:k5):k5:=if b<0 then wR y else y
def fq(B:j9)(base:k5)(cs:j6)(n i:Nat):Option (Int×Int) :=
 if(xy base (cs[n+i]?.getD (0,0))).2=true then some (Ac (B[i]?.getD 0) (xy base (cs[n+i]?.getD (0,0))).1) else none
def dm(B:j9)(cs:j6)(n i:Nat):k5:=Ac (B[i]?.getD 0) (wR (cs[n+i]?.getD (0,0)))
def ze(t:Tb)(n wX:Nat):Nat->j6
 | 0=>(List.range n).map fun j=>if j=wX then(1,1) else(0,1)
 | k+1=>if t.basis[k]?.getD 0<n then(ze t n wX k).set (t.basis[k]?.getD 0).toNat (wR (t.at k wX)) else ze t n wX k
def bM(n m:Nat):j6:=List.replicate n (0,1)++List.replicate m (1,1)
def bK(C:j6)(m:Nat):j6:=C++List.replicate m (0,1)
def zf(A:j7)(B:j9)(C:j6):Option AT :=
 (aJ (bM C.length B.length) 1000 (bF A B C.length)).bind fun p1 =>
   if(p1.costs[C.length+B.length]?.getD (0,0)).1<0 then
    (runT (fq B (1,1) p1.costs C.length) B.length).map fun Y=>⟨2,[],Y,[],(0,0),1000-p1.left⟩
   else(br C.length (p1.t,p1.left) B.length).bind fun s=>(aJ (bK C B.length) s.2 s.1).map fun p2 =>
    if 0<=p2.wX then⟨3,(xV p2.t).take C.length,[],ze p2.t C.length p2.wX.toNat B.length,(0,0),1000-p2.left⟩
    else⟨1,(xV p2.t).take C.length,(List.range B.length).map (dm B p2.costs C.length),[],wR (p2.costs[C.length+B.length]?.getD (0,0)),1000-p2.left⟩
def bV(bound:j7->j6->j6->Nat->Bool)(A:j7)(B:j9)(C:j6):AT :=
 if xF A B C=true then
  match zf A B C with
  | none=>be 4
  | some r=>if aD bound A B C r=true then r else be 4
 else be 0
def Fr(p:k5)(x D:Int):Prop:=o5 p=true/\0<D/\p.1*D=x*p.2
theorem iK{p:k5}(h:o5 p=true):gI p.1 p.2=1:=by
 simp only[o5,Bool.and_eq_true,decide_eq_true_eq]at h;exact h.2.2
theorem kR{p:k5}(h1:1<=p.2)(h2:p.2<=1000000000)(h3:-1000000000<=p.1)(h4:p.1<=1000000000)(h5:gI p.1 p.2=1):o5 p=true:=by
 simp only[o5,wJ,Bool.and_eq_true,decide_eq_true_eq];omega
theorem it(a b:Int):gI a b=1↔Nat.Coprime a.natAbs b.natAbs:=by unfold gI Int.gcd Nat.Coprime;omega
theorem qP{a b c:Int}(hb:0<b)(hd:0<d)(h1:gI a b=1)(h2:gI c d=1)(h:a*d=c*b):a=c/\b=d:=by
 rw[it]at h1 h2;have hn:a.natAbs*d.natAbs=c.natAbs*b.natAbs:=by rw[<-Int.natAbs_mul,<-Int.natAbs_mul,h]
 have e1:b.natAbs∣d.natAbs:=Nat.Coprime.dvd_of_dvd_mul_left h1.symm ⟨c.natAbs,by rw[hn,Nat.mul_comm]⟩;have e2:d.natAbs∣b.natAbs:=Nat.Coprime.dvd_of_dvd_mul_left h2.symm ⟨a.natAbs,by rw[<-hn,Nat.mul_comm]⟩;have e3:b=d:=by have:=Nat.dvd_antisymm e1 e2;omega
 subst e3;exact⟨Int.eq_of_mul_eq_mul_right b9 h,rfl⟩
theorem Fr.eq{p q:k5}(h:Fr p x D)(k:Fr q y E)(e:x*E=y*D):p=q:=by
 obtain⟨h1,h2,h3⟩:=h;obtain⟨k1,k2,k3⟩:=k;have hb:=(aQ h1).1;have kb:=(aQ k1).1;have key:(p.1*q.2)*(D*E)=(q.1*p.2)*(D*E):=by grind
 have XY:D*E≠0:=Int.mul_ne_zero b9 b9;have:=qP b9 b9 (iK h1) (iK k1) (Int.eq_of_mul_eq_mul_right XY key);exact Prod.ext this.1 this.2
theorem Fr.int(c:Int)(h:-1000000000<=c)(h':c<=1000000000):Fr (c,1) c 1 :=
 ⟨kR e7 e7 h h' (by rw[it];simp),by omega,rfl⟩
theorem Fr.self{p:k5}(h:o5 p=true):Fr p p.1 p.2:=⟨h,by have:=(aQ h).1;omega,rfl⟩
theorem lH(n d:Int)(hd:0<d):1<=gI n d/\n=gI n d*n.tdiv (gI n d)/\d=gI n d*d.tdiv (gI n d)/\0<d.tdiv (gI n d):=by
 have hg:=kl n (show d≠0 by omega);obtain⟨k,hk⟩:=nO n d;obtain⟨m,hm⟩:=kI n d;have h1:n.tdiv (gI n d)=k:=by
    conv=>lhs;arg 1;rw[hk]
    exact Int.mul_tdiv_cancel_left _ b9
 have h2:d.tdiv (gI n d)=m:=by
    conv=>lhs;arg 1;rw[hm]
    exact Int.mul_tdiv_cancel_left _ b9
 rw[h1,h2];refine⟨hg,hk,hm,?_⟩
 rcases Int.lt_or_le 0 m with h|h
 ·exact h
 ·have:gI n d*m<=0:=Int.mul_nonpos_of_nonneg_of_nonpos b9 h;omega
theorem ps{n:Int}(hd:0<d)(hn:-1000000000000000000<=n/\n<=1000000000000000000)(hd':d<=1000000000000000000):aL n d=zB (n.tdiv (gI n d),d.tdiv (gI n d)):=by
 unfold aL;rw[if_neg (by simp[wJ];omega),if_neg b9]
theorem ut{n:Int}(hd:0<d)(J:0<D)(hn:-1000000000000000000<=n/\n<=1000000000000000000)(G:d<=1000000000000000000)(hx:-1000000000000000000<=x/\x<=1000000000000000000)(I:D<=1000000000000000000)(e:n*D=x*d):aL n d=aL x D:=by
 rw[ps hd hn G,ps J hx I];obtain⟨g1,g2,g3,g4⟩:=lH n d hd;obtain⟨k1,k2,O,K⟩:=lH x D J;have key:(n.tdiv (gI n d)*D.tdiv (gI x D))*(gI n d*gI x D)=(x.tdiv (gI x D)*d.tdiv (gI n d))*(gI n d*gI x D):=by
  have a1:(n.tdiv (gI n d)*D.tdiv (gI x D))*(gI n d*gI x D)=(gI n d*n.tdiv (gI n d))*(gI x D*D.tdiv (gI x D)):=by grind
  have a2:(x.tdiv (gI x D)*d.tdiv (gI n d))*(gI n d*gI x D)=(gI x D*x.tdiv (gI x D))*(gI n d*d.tdiv (gI n d)):=by grind
  rw[a1,a2,<-g2,<-g3,<-k2,<-O,e]
 have hne:gI n d*gI x D≠0:=Int.mul_ne_zero b9 b9;have:=qP g4 K (kj n d hd) (kj x D J) (Int.eq_of_mul_eq_mul_right hne key);rw[this.1,this.2]
theorem lU{n:Int}(hd:0<d)(h:(aL n d).2=true):Fr (aL n d).1 n d:=by
 refine⟨hJ h,hd,?_⟩;unfold aL at h⊢
 split at h
 ·simp at h
 ·next h0 =>
  rw[if_neg h0]
  split at h
  ·omega
  ·next h1 =>
   rw[if_neg h1];unfold zB at h⊢
   split at h
   ·next h2 =>
    rw[if_pos h2];obtain⟨g1,g2,g3,g4⟩:=lH n d hd;simp only;generalize n.tdiv (gI n d)=k at *;generalize d.tdiv (gI n d)=m at *;generalize gI n d=g at *;subst g2;grind
   ·simp at h
theorem iE{n:Int}(hd:0<d)(hn:-1000000000000000000<=n/\n<=1000000000000000000)(G:d<=1000000000000000000)(J:0<D)(I:D<=1000000000)(hx:-1000000000<=x/\x<=1000000000)(e:n*D=x*d):
 ∃r,aL n d=(r,true)/\Fr r x D:=by
 have h1:=ut hd J hn G b9 b9 e;have h2:=Lj (n:=x) (d:=D) b9 I hx.1 hx.2;exact⟨(aL x D).1,by rw[h1,<-h2],lU J h2⟩
theorem Qv{p q:Int}(h:-1000000000<=p/\p<=1000000000)(k:-1000000000<=q/\q<=1000000000):-1000000000000000000<=p*q/\p*q<=1000000000000000000:=gY h.1 h.2 k.1 k.2
theorem Fr.mul{p q:k5}(h:Fr p x D)(k:Fr q y E)(hF:0<F)(hF':F<=1000000000)(hz:-1000000000<=z/\z<=1000000000)(e:x*y*F=z*(D*E)):∃r,mulR p q=(r,true)/\Fr r z F:=by
 obtain⟨h1,h2,h3⟩:=h;obtain⟨k1,k2,I⟩:=k;have hb:=aQ h1;have G:=aQ k1;have hp:0<p.2*q.2:=Int.mul_pos b9 b9;have XY:D*E≠0:=Int.mul_ne_zero b9 b9;unfold mulR;rw[if_pos (by rw[h1,k1];rfl)];refine iE hp (Qv ⟨hb.2.2.1,hb.2.2.2⟩ ⟨G.2.2.1,G.2.2.2⟩) (Qv ⟨by omega,hb.2.1⟩ ⟨by omega,G.2.1⟩).2 hF hF' hz ?_;refine Int.eq_of_mul_eq_mul_right XY ?_;have:p.1*q.1*F*(D*E)=(p.1*D)*(q.1*E)*F:=by grind
 rw[this,h3,I];have:x*p.2*(y*q.2)*F=(x*y*F)*(p.2*q.2):=by grind
 rw[this,e];grind
theorem Fr.add{p q:k5}(h:Fr p x D)(k:Fr q y E)(hF:0<F)(hF':F<=1000000000)(hz:-1000000000<=z/\z<=1000000000)(hs:-1000000000000000000<=p.1*q.2+q.1*p.2/\p.1*q.2+q.1*p.2<=1000000000000000000)(e:(x*E+y*D)*F=z*(D*E)):∃r,xP p q=(r,true)/\Fr r z F:=by
 obtain⟨h1,h2,h3⟩:=h;obtain⟨k1,k2,I⟩:=k;have hb:=aQ h1;have G:=aQ k1;have hp:0<p.2*q.2:=Int.mul_pos b9 b9;have XY:D*E≠0:=Int.mul_ne_zero b9 b9;unfold xP;rw[if_pos (by rw[h1,k1];rfl)];refine iE hp hs (Qv ⟨by omega,hb.2.1⟩ ⟨by omega,G.2.1⟩).2 hF hF' hz ?_;refine Int.eq_of_mul_eq_mul_right XY ?_;have:(p.1*q.2+q.1*p.2)*F*(D*E)=((p.1*D)*(q.2*E)+(q.1*E)*(p.2*D))*F:=by grind
 rw[this,h3,I];have:(x*p.2*(q.2*E)+y*q.2*(p.2*D))*F=((x*E+y*D)*F)*(p.2*q.2):=by grind
 rw[this,e];grind
theorem Fr.neg{p:k5}(h:Fr p x D):Fr (-p.1,p.2) (-x) D :=
 ⟨by rw[gO];exact h.1,h.2.1,by have:=h.2.2;simp only;grind⟩
theorem Fr.sub{p q:k5}(h:Fr p x D)(k:Fr q y E)(hF:0<F)(hF':F<=1000000000)(hz:-1000000000<=z/\z<=1000000000)(hs:-1000000000000000000<=p.1*q.2-q.1*p.2/\p.1*q.2-q.1*p.2<=1000000000000000000)(e:(x*E-y*D)*F=z*(D*E)):∃r,xy p q=(r,true)/\Fr r z F:=by
 rw[<-mh];exact h.add k.neg hF hF' hz (by simp only;rw[Int.neg_mul];omega) (by grind)
theorem Fr.size{p:k5}(h:Fr p x D):p.2<=D/\p.1.natAbs<=x.natAbs:=by
 obtain⟨h1,h2,h3⟩:=h;have hb:=aQ h1;have hc:=iK h1;rw[it]at hc;have hn:p.1.natAbs*D.natAbs=x.natAbs*p.2.natAbs:=by rw[<-Int.natAbs_mul,<-Int.natAbs_mul,h3]
 have e1:p.2.natAbs∣D.natAbs:=Nat.Coprime.dvd_of_dvd_mul_left hc.symm ⟨x.natAbs,by rw[hn,Nat.mul_comm]⟩;have e2:=Nat.le_of_dvd b9 e1;refine⟨by omega,?_⟩;have e3:p.1.natAbs*p.2.natAbs<=x.natAbs*p.2.natAbs:=by rw[<-hn];exact Nat.mul_le_mul_left _ e2
 exact Nat.le_of_mul_le_mul_right e3 b9
def val(r:k5):Rat:=(r.1:Rat)/(r.2:Rat)
theorem dO(h:d≠0):(d:Rat)≠0:=by exact_mod_cast h
theorem KH{r:k5}{n:Int}(h:Fr r n d):val r=(n:Rat)/(d:Rat):=by
 obtain⟨h1,h2,h3⟩:=h;have hb:=(aQ h1).1;have e:(r.1:Rat)*(d:Rat)=(n:Rat)*(r.2:Rat):=by exact_mod_cast h3
 have a:=dO (show d≠0 by omega);have b:=dO (show r.2≠0 by omega);unfold val
 grind
theorem fV{p q:k5}(hp:o5 p=true)(hq:o5 q=true)(h:val p=val q):p=q:=by
 have hb:=(aQ hp).1;have kb:=(aQ hq).1;have a:=dO (show p.2≠0 by omega);have b:=dO (show q.2≠0 by omega);have e:(p.1:Rat)*(q.2:Rat)=(q.1:Rat)*(p.2:Rat):=by unfold val at h;grind
 have e':p.1*q.2=q.1*p.2:=by exact_mod_cast e
 have:=qP b9 b9 (iK hp) (iK hq) e';exact Prod.ext this.1 this.2
theorem eW{p q:k5}(hp:o5 p=true)(hq:o5 q=true):0<=wU p q↔val q<=val p:=by
 have hb:=(aQ hp).1;have kb:=(aQ hq).1;have a:(0:Rat)<(p.2:Rat):=by exact_mod_cast (show 0<p.2 by omega)
 have b:(0:Rat)<(q.2:Rat):=by exact_mod_cast (show 0<q.2 by omega)
 have e:0<=wU p q↔q.1*p.2<=p.1*q.2:=by
  unfold wU;rw[if_pos (by rw[hp,hq];rfl)]
  split
  ·omega
  ·split<;>omega
 rw[e];have e2:q.1*p.2<=p.1*q.2↔(q.1:Rat)*p.2<=(p.1:Rat)*q.2:=by
  constructor
  ·intro h;exact_mod_cast h
  ·intro h;exact_mod_cast h
 rw[e2];have x1:(p.1:Rat)=val p*p.2:=by unfold val;grind
 have x2:(q.1:Rat)=val q*q.2:=by unfold val;grind
 have JF:(0:Rat)<(p.2:Rat)*q.2:=Rat.mul_pos a b;have G:(q.1:Rat)*p.2=val q*((p.2:Rat)*q.2):=by rw[x2];grind
 have x4:(p.1:Rat)*q.2=val p*((p.2:Rat)*q.2):=by rw[x1];grind
 rw[G,x4];exact⟨fun h=>Rat.le_of_mul_le_mul_right h JF,fun h=>Rat.mul_le_mul_of_nonneg_right h (by grind)⟩
theorem eC{p:k5}(hp:o5 p=true):0<=p.1↔0<=val p:=by
 have hb:=(aQ hp).1;have a:(0:Rat)<(p.2:Rat):=by exact_mod_cast (show 0<p.2 by omega)
 have x1:(p.1:Rat)=val p*p.2:=by unfold val;grind
 have e:0<=p.1↔(0:Rat)*p.2<=val p*p.2:=by
  rw[<-x1];constructor
  ·intro h;have:(0:Rat)<=(p.1:Rat):=by exact_mod_cast h
   grind
  ·intro h;have:(0:Rat)<=(p.1:Rat):=by grind
   exact_mod_cast this
 rw[e];exact⟨fun h=>Rat.le_of_mul_le_mul_right h a,fun h=>Rat.mul_le_mul_of_nonneg_right h (by grind)⟩
theorem bp(x:Int):val (x,1)=(x:Rat):=by unfold val;grind
theorem cH(r:k5):val (wR r)=- val r:=by
 unfold val wR;have:((-r.1:Int):Rat)=- (r.1:Rat):=by exact_mod_cast rfl
 simp only[this];grind
theorem cX(r:k5):o5 (wR r)=o5 r:=gO r.1 r.2
theorem nZ(n b:Int):wJ (-n) (-b) b=wJ n (-b) b:=by
 unfold wJ;rw[Bool.eq_iff_iff];simp;omega
theorem kt(n d:Int):aL (-n) (-d)=aL n d:=by
 unfold aL;have h1:=nZ n 1000000000000000000;have h2:=nZ d 1000000000000000000;rw[im,kJ,h1,h2];by_cases hd:d=0
 ·subst hd;simp
 ·have:-d≠0:=by omega
  simp only[hd,this,false_or]
  split
  ·rfl
  ·by_cases hn:d<0
   ·rw[if_neg b9,if_pos hn];simp[Int.neg_tdiv,Int.tdiv_neg]
   ·rw[if_pos b9,if_neg hn];simp[Int.neg_tdiv,Int.tdiv_neg]
theorem pu(n d:Int):aL (-n) d=(wR (aL n d).1,(aL n d).2):=by
 unfold aL;have h1:=nZ n 1000000000000000000;rw[im,h1];have hc:∀a b:Int,zB (-a,b)=(wR (zB (a,b)).1,(zB (a,b)).2):=by
  intro a b;unfold zB;rw[gO]
  split<;>rfl
 split
 ·rfl
 ·split
  ·rw[Int.neg_tdiv,hc]
  ·rw[Int.neg_tdiv,hc]
theorem kE{n:Int}(h:(aL n d).2=true):d≠0/\o5 (aL n d).1=true/\val (aL n d).1=(n:Rat)/(d:Rat):=by
 have hd:d≠0:=by
  intro h0;subst h0;simp[aL]at h
 refine⟨hd,hJ h,?_⟩
 rcases Int.lt_or_gt_of_ne hd with hlt|G5
 ·have e:=kt n d;rw[<-e]at h⊢;have:=KH (lU b9 h);rw[this];have a:=dO hd;have e1:((-n:Int):Rat)=- (n:Rat):=by exact_mod_cast rfl
  have e2:((-d:Int):Rat)=- (d:Rat):=by exact_mod_cast rfl
  rw[e1,e2];grind
 ·exact KH (lU G5 h)
theorem both{a b:Bool}(h:(a&&b)=true):a=true/\b=true:=by simpa using h
theorem jw(h:(xP a b).2=true):o5 a=true/\o5 b=true/\o5 (xP a b).1=true/\val (xP a b).1=val a+val b:=by
 unfold xP at h⊢
 split at h
 ·next h1 =>
  rw[if_pos h1];obtain⟨ha,hb⟩:=both h1;obtain⟨h2,h3,h4⟩:=kE h;refine⟨ha,hb,h3,?_⟩;rw[h4];have e1:=dO (show a.2≠0 by have:=(aQ ha).1;omega);have e2:=dO (show b.2≠0 by have:=(aQ hb).1;omega);unfold val;simp only[Rat.intCast_add,Rat.intCast_mul]
  grind
 ·simp at h
theorem fW(h:(xy a b).2=true):o5 a=true/\o5 b=true/\o5 (xy a b).1=true/\val (xy a b).1=val a-val b:=by
 rw[<-mh]at h⊢;obtain⟨h1,h2,h3,h4⟩:=jw h;rw[gO]at h2;refine⟨h1,h2,h3,?_⟩;rw[h4];have:=cH b;unfold wR at this;rw[this];grind
theorem kS(h:(mulR a b).2=true):o5 a=true/\o5 b=true/\o5 (mulR a b).1=true/\val (mulR a b).1=val a*val b:=by
 unfold mulR at h⊢
 split at h
 ·next h1 =>
  rw[if_pos h1];obtain⟨ha,hb⟩:=both h1;obtain⟨h2,h3,h4⟩:=kE h;refine⟨ha,hb,h3,?_⟩;rw[h4];have e1:=dO (show a.2≠0 by have:=(aQ ha).1;omega);have e2:=dO (show b.2≠0 by have:=(aQ hb).1;omega);unfold val;simp only[Rat.intCast_mul]
  grind
 ·simp at h
theorem tH(h:(yH a b).2=true):o5 a=true/\o5 b=true/\o5 (yH a b).1=true/\val b≠0/\val (yH a b).1=val a/val b:=by
 unfold yH at h⊢
 split at h
 ·next h1 =>
  rw[if_pos h1];obtain⟨ha,hb⟩:=both h1;obtain⟨h2,h3,h4⟩:=kE h;have e1:=dO (show a.2≠0 by have:=(aQ ha).1;omega);have e2:=dO (show b.2≠0 by have:=(aQ hb).1;omega);have e3:=dO (show b.1≠0 by intro h0;rw[h0]at h2;simp at h2);refine⟨ha,hb,h3,?_,?_⟩
  ·unfold val;grind
  ·rw[h4];unfold val;simp only[Rat.intCast_mul]
   grind
 ·simp at h
theorem vF(a b:k5):mulR a b=mulR b a:=by
 unfold mulR;rw[Bool.and_comm,Int.mul_comm a.1,Int.mul_comm a.2]
theorem LK(a b:k5):mulR a (wR b)=(wR (mulR a b).1,(mulR a b).2):=by
 unfold mulR;rw[cX]
 split
 ·have:a.1*(wR b).1=-(a.1*b.1):=by unfold wR;simp only;grind
  rw[this,pu];rfl
 ·rfl
theorem NG(a b:k5):xP (wR a) (wR b)=(wR (xP a b).1,(xP a b).2):=by
 unfold xP;rw[cX,cX]
 split
 ·have:(wR a).1*(wR b).2+(wR b).1*(wR a).2=-(a.1*b.2+b.1*a.2):=by unfold wR;simp only;grind
  rw[this,pu];rfl
 ·rfl
def o0(f:Nat->Rat):Nat->Rat
 | 0=>0
 | k+1=>o0 f k+f k
theorem dd(f g:Nat->Rat)(c:Rat):∀m,o0 (fun k=>f k+c*g k) m=o0 f m+c*o0 g m
 | 0=>by simp[o0];grind
 | m+1=>by simp only[o0,dd f g c m];grind
theorem aq{f g:Nat->Rat}:∀{m},(∀k,k<m->f k=g k)->o0 f m=o0 g m
 | 0,_=>rfl
 | m+1,h=>by simp only[o0,aq (m:=m) (fun k hk=>h k b9),h m b9]
theorem cv{f:Nat->Rat}:∀{m},(∀k,k<m->f k=0)->o0 f m=0
 | 0,_=>rfl
 | m+1,h=>by simp only[o0,cv (m:=m) (fun k hk=>h k b9),h m b9];grind
theorem cV{f:Nat->Rat}{i:Nat}:∀{m},i<m->(∀k,k<m->k≠i->f k=0)->o0 f m=f i
 | 0,hi,_=>absurd hi b9
 | m+1,hi,h=>by
   by_cases Rv:i=m
   ·subst Rv;simp only[o0];rw[cv (fun k hk=>h k b9 b9)];grind
   ·simp only[o0];rw[cV (m:=m) b9 (fun k hk D8=>h k b9 D8),h m b9 b9];grind
def Rel(n m:Nat)(T0:Nat->Nat->Rat)(c f:Nat->Rat):Prop:=∀j,j<n+m+1->f j-c j=o0 (fun k=>(f (n+k)-c (n+k))*T0 k j) m
theorem Rel.add{c f g h:Nat->Rat}{k:Rat}(hf:Rel n m T0 c f)(hg:Rel n m T0 (fun _=>0) g)(hh:∀j,j<n+m+1->h j=f j+k*g j):Rel n m T0 c h:=by
 intro j hj;have h1:=hf j hj;have h2:=hg j hj;rw[hh j hj];have e:o0 (fun i=>(h (n+i)-c (n+i))*T0 i j) m=o0 (fun i=>(f (n+i)-c (n+i))*T0 i j+k*((g (n+i)-0)*T0 i j)) m :=
  aq fun i hi=>by rw[hh (n+i) b9];grind
 rw[e,dd,<-h1,<-h2];grind
theorem Rel.scale{g h:Nat->Rat}{k:Rat}(hg:Rel n m T0 (fun _=>0) g)(hh:∀j,j<n+m+1->h j=k*g j):Rel n m T0 (fun _=>0) h:=by
 have h0:Rel n m T0 (fun _=>0) (fun _=>0):=by
  intro j hj;rw[cv (fun k hk=>by grind)];grind
 exact Rel.add h0 hg (k:=k) (fun j hj=>by rw[hh j hj];grind)
def o4(r:j6)(j:Nat):Rat:=val (r[j]?.getD (0,0))
def eJ(N:Nat)(r:j6):Prop:=r.length=N/\∀j,j<N->o5 (r[j]?.getD (0,0))=true
theorem kx{A B:j6}{k:k5}(h:zo A k B=some r):A.length=B.length/\r.length=A.length/\∀j,j<A.length->o5 (r[j]?.getD (0,0))=true/\o4 r j=o4 A j+val k*o4 B j:=by
 unfold zo at h
 split at h
 ·next hl =>
  refine⟨hl,cU h,fun j hj=>?_⟩;have hs:=gN h j hj;unfold C6 at hs
  split at hs
  ·next h2 =>
   simp only[Option.some.injEq]at hs;obtain⟨e1,e2⟩:=h2;obtain⟨_,_,_,m4⟩:=kS e1;obtain⟨_,_,a3,a4⟩:=jw e2;rw[<-hs];refine⟨a3,?_⟩;unfold o4;rw[<-hs,a4,m4]
  ·cases hs
 ·cases h
theorem oC{A:j6}{p:k5}(h:Bo A p=some r):r.length=A.length/\∀j,j<A.length->o5 (r[j]?.getD (0,0))=true/\val p≠0/\o4 r j=o4 A j/val p:=by
 refine⟨cU h,fun j hj=>?_⟩;have hs:=gN h j hj;unfold DI at hs
 split at hs
 ·next h2 =>
  simp only[Option.some.injEq]at hs;obtain⟨_,_,d3,d4,d5⟩:=tH h2;rw[<-hs];refine⟨d3,d4,?_⟩;unfold o4;rw[<-hs,d5]
 ·cases hs
structure xY(n m:Nat)(T0:Nat->Nat->Rat)(t:Tb):Prop where
 q8:t.q8=n
 len:t.rows.length=m
 zP:t.basis.length=m
 Dk:∀b∈t.basis,0<=b/\b<n+m
 row:∀i,i<m->eJ (n+m+1) (t.row i)
 rel:∀i,i<m->Rel n m T0 (fun _=>0) (o4 (t.row i))
theorem xY.ok(h:xY n m T0 t)(hn:n<=1000):AG t=true:=by
 unfold AG;have hc:=h.q8;have hl:=h.len;simp only[Bool.and_eq_true,wJ,decide_eq_true_eq,List.all_eq_true];refine⟨by omega,by rw[h.zP,hl],fun b hb=>?_,fun r hr=>?_⟩
 ·have:=h.Dk b hb;omega
 ·obtain⟨i,hi,rfl⟩:=List.mem_iff_getElem.1 hr;have:=(h.row i b9).1;unfold Tb.row at this;rw[List.getElem?_eq_getElem hi,Option.getD_some]at this;omega
theorem kP{rs:List (j6)}{i k:Nat}(hi:i<rs.length):(rs.set i r)[k]?.getD []=if k=i then r else rs[k]?.getD []:=by
 by_cases h:k=i
 ·subst h;rw[if_pos rfl];simp[hi]
 ·rw[if_neg h,List.getElem?_set_ne (fun e=>h e.symm)]
theorem po{n m:Nat}{T0:Nat->Nat->Rat}{t:Tb}(h:xY n m T0 t){row wX:Nat}(hr:row<m){main:j6}(J:eJ (n+m+1) main)(Jz:Rel n m T0 (fun _=>0) (o4 main)):
 ∀{k:Nat} {st:List (j6)},k<=m->y7 t row wX main k=some st->st.length=m/\∀i,i<m->eJ (n+m+1) (st[i]?.getD [])/\Rel n m T0 (fun _=>0) (o4 (st[i]?.getD []))
 | 0,st,hk,e=>by
   simp only[y7,Option.some.injEq]at e;subst e;refine⟨by rw[List.length_set,h.len],fun i hi=>?_⟩;rw[kP (by rw[h.len];exact hr)]
   split
   ·exact⟨J,Jz⟩
   ·exact⟨h.row i hi,h.rel i hi⟩
 | k+1,st,hk,e=>by
   simp only[y7]at e;cases e0:y7 t row wX main k with
   | none=>rw[e0]at e;cases e
   | some s0 =>
     rw[e0]at e;simp only[Option.bind_some]at e;obtain⟨hl,hs⟩:=po h hr J Jz b9 e0;unfold Jq at e
     split at e
     ·simp only[Option.some.injEq]at e;subst e;exact⟨hl,hs⟩
     ·cases e1:zo (t.row k) (wR (t.at k wX)) main with
      | none=>rw[e1]at e;cases e
      | some r =>
        rw[e1]at e;simp only[Option.map_some,Option.some.injEq]at e;subst e;obtain⟨s1,s2,I⟩:=kx e1;have G:=(h.row k b9).1;refine⟨by rw[List.length_set,hl],fun i hi=>?_⟩;rw[kP (by rw[hl];omega)]
        split
        ·refine⟨⟨by rw[s2,G],fun j hj=>(I j (by rw[G];exact hj)).1⟩,?_⟩;exact Rel.add (h.rel k b9) Jz (k:=val (wR (t.at k wX))) (fun j hj=>(I j (by rw[G];exact hj)).2)
        ·exact hs i hi
theorem eT{I:Tb}(h:xY n m T0 t){row wX:Int}(e:bo t row wX=some I):xY n m T0 I:=by
 unfold bo at e
 split at e
 ·next ha =>
  unfold dN at ha;simp only[Bool.and_eq_true,wJ,decide_eq_true_eq]at ha;have hc:=h.q8;have hl:=h.len;have o9:row.toNat<m:=by omega
  have zU:wX.toNat<n+m:=by omega
  unfold fD at e;cases e0:Bo (t.row row.toNat) (t.at row.toNat wX.toNat)with
  | none=>rw[e0]at e;cases e
  | some main =>
    rw[e0]at e;simp only[Option.bind_some]at e;cases e1:y7 t row.toNat wX.toNat main t.rows.length with
    | none=>rw[e1]at e;cases e
    | some rs =>
      rw[e1]at e;simp only[Option.map_some,Option.some.injEq]at e;subst e;obtain⟨d1,d2⟩:=oC e0;have G:=(h.row _ o9).1;have J:eJ (n+m+1) main:=⟨by rw[d1,G],fun j hj=>(d2 j (by rw[G];exact hj)).1⟩
      have Jz:Rel n m T0 (fun _=>0) (o4 main):=Rel.scale (h.rel _ o9) (k:=1/val (t.at row.toNat wX.toNat)) (fun j hj=>by
       have:=(d2 j (by rw[G];exact hj)).2
       rw[this.2];have:=this.1;grind)
      obtain⟨p1,p2⟩:=po h o9 J Jz b9 e1
      exact⟨hc,p1,by simp[h.zP],fun b hb=>by
       rcases List.mem_or_eq_of_mem_set hb with h1|h1
       ·exact h.Dk b h1
       ·omega,fun i hi=>(p2 i hi).1,fun i hi=>(p2 i hi).2⟩
 ·cases e
theorem mE{n m:Nat}{T0:Nat->Nat->Rat}{t:Tb}(h:xY n m T0 t){cost:j6}(hl:cost.length=n+m)(hv:∀j,j<n+m->o5 (cost[j]?.getD (0,0))=true):
 ∀{k:Nat} {cs:j6},k<=m->cO t cost k=some cs->eJ (n+m+1) cs/\Rel n m T0 (o4 (cost++[(0,1)])) (o4 cs)
 | 0,cs,hk,e=>by
   simp only[cO,Option.some.injEq]at e;subst e;refine⟨⟨by simp[hl],fun j hj=>?_⟩,?_⟩
   ·by_cases I:j<n+m
    ·rw[List.getElem?_append_left b9];exact hv j I
    ·obtain rfl:j=n+m:=by omega
     rw[<-hl,List.getElem?_concat_length,Option.getD_some];rfl
   ·intro j hj;rw[cv (fun k hk=>by grind)];grind
 | k+1,cs,hk,e=>by
   simp only[cO]at e;cases e0:cO t cost k with
   | none=>rw[e0]at e;cases e
   | some c0 =>
     rw[e0]at e;simp only[Option.bind_some]at e;obtain⟨⟨h1,h2⟩,h3⟩:=mE h hl hv b9 e0;obtain⟨s1,s2,G⟩:=kx e;exact⟨⟨by rw[s2,h1],fun j hj=>(G j (by rw[h1];exact hj)).1⟩,Rel.add h3 (h.rel k b9) (fun j hj=>(G j (by rw[h1];exact hj)).2)⟩
theorem dT(h:xY n m T0 t){cs:j6}(e:bS t cost=some cs):eJ (n+m+1) cs/\Rel n m T0 (o4 (cost++[(0,1)])) (o4 cs):=by
 unfold bS at e
 split at e
 ·next ho =>
  unfold jm yz at ho;simp only[Bool.and_eq_true,decide_eq_true_eq,List.all_eq_true]at ho;have hc:=h.q8;have hl:=h.len;have hlen:cost.length=n+m:=by omega
  rw[hl]at e;exact mE h hlen (fun j hj=>by rw[List.getElem?_eq_getElem b9];exact ho.2.2 _ (List.getElem_mem _)) (Nat.le_refl _) e
 ·cases e
theorem dJ:∀{f:Nat} {t:Tb} {p:Ph},xY n m T0 t->aJ cost f t=some p->xY n m T0 p.t/\bS p.t cost=some p.costs/\p.left<=f:=by
 intro f
 induction f with
 | zero =>
   intro t p h e;unfold aJ at e;cases e0:bS t cost with
   | none=>rw[e0]at e;cases e
   | some cs =>
     rw[e0]at e;simp only at e
     split at e
     ·simp only[Option.some.injEq]at e;subst e;exact⟨h,e0,Nat.le_refl _⟩
     ·split at e
      ·simp only[Option.some.injEq]at e;subst e;exact⟨h,e0,Nat.le_refl _⟩
      ·cases e
 | succ f ih =>
   intro t p h e;unfold aJ at e;cases e0:bS t cost with
   | none=>rw[e0]at e;cases e
   | some cs =>
     rw[e0]at e;simp only at e
     split at e
     ·simp only[Option.some.injEq]at e;subst e;exact⟨h,e0,Nat.le_refl _⟩
     ·split at e
      ·simp only[Option.some.injEq]at e;subst e;exact⟨h,e0,Nat.le_refl _⟩
      ·cases e1:bo t (bP t (aX cs t.q8)) (aX cs t.q8)with
       | none=>rw[e1]at e;cases e
       | some t' =>
         rw[e1]at e;obtain⟨a,b,c⟩:=ih (eT h e1) e;exact⟨a,b,by omega⟩
theorem fp{n m:Nat}{T0:Nat->Nat->Rat}{I:Nat}{s:Tb×Nat}(h:xY n m T0 s.1):∀{k:Nat} {G:Tb×Nat},br I s k=some G->xY n m T0 G.1/\G.2<=s.2
 | 0,G,e=>by simp only[br,Option.some.injEq]at e;subst e;exact⟨h,Nat.le_refl _⟩
 | k+1,G,e=>by
   simp only[br]at e;cases e0:br I s k with
   | none=>rw[e0]at e;cases e
   | some s1 =>
     rw[e0]at e;simp only[Option.bind_some]at e;obtain⟨h1,h2⟩:=fp h e0;unfold gl at e
     split at e
     ·simp only[Option.some.injEq]at e;subst e;exact⟨h1,h2⟩
     ·split at e
      ·simp only[Option.some.injEq]at e;subst e;exact⟨h1,h2⟩
      ·split at e
       ·cases e
       ·next f hf =>
        rw[Option.map_eq_some_iff]at e;obtain⟨t',e1,rfl⟩:=e;exact⟨eT h1 e1,by show f<=s.2;omega⟩
theorem oE{X Y:j6}:∀{k:Nat} {v:k5},zA X Y k=some v->o5 v=true/\(∀j,j<k->o5 (X[j]?.getD (0,0))=true/\o5 (Y[j]?.getD (0,0))=true)/\val v=o0 (fun j=>o4 X j*o4 Y j) k
 | 0,v,e=>by
   simp only[zA,Option.some.injEq]at e;subst e;refine⟨rfl,fun j hj=>absurd hj b9,?_⟩;unfold val o0;simp;grind
 | k+1,v,e=>by
   simp only[zA]at e;cases e0:zA X Y k with
   | none=>rw[e0]at e;cases e
   | some s =>
     rw[e0]at e;simp only[Option.bind_some]at e
     split at e
     ·next h2 =>
      simp only[Option.some.injEq]at e;obtain⟨h3,h4,h5⟩:=oE e0;obtain⟨m1,m2,m3,m4⟩:=kS h2.1;obtain⟨a1,a2,a3,a4⟩:=jw h2.2;rw[<-e];refine⟨a3,fun j hj=>?_,?_⟩
      ·by_cases PX:j<k
       ·exact h4 j PX
       ·obtain rfl:j=k:=by omega
        exact⟨m1,m2⟩
      ·rw[a4,m4,h5];rfl
     ·cases e
theorem dK{X:j6}{v:k5}(e:wY X Y=some v):X.length=Y.length/\o5 v=true/\(∀j,j<X.length->o5 (X[j]?.getD (0,0))=true/\o5 (Y[j]?.getD (0,0))=true)/\val v=o0 (fun j=>o4 X j*o4 Y j) X.length:=by
 unfold wY at e
 split at e
 ·next h=>exact⟨h,oE e⟩
 ·cases e
theorem oD(X Y:j6):∀k,zA X Y k=zA Y X k
 | 0=>rfl
 | k+1=>by simp only[zA,oD X Y k,vF (X[k]?.getD (0,0))]
theorem iS(X Y:j6):wY X Y=wY Y X:=by
 unfold wY;by_cases h:X.length=Y.length
 ·rw[if_pos h,if_pos h.symm,h,oD]
 ·rw[if_neg h,if_neg (fun e=>h e.symm)]
theorem qs(Y:j6)(k:Nat):(Y.map wR)[k]?.getD (0,0)=wR (Y[k]?.getD (0,0)):=by
 rw[List.getElem?_map];cases Y[k]?<;>rfl
theorem qh(X Y:j6):∀k,zA X (Y.map wR) k=(zA X Y k).map wR
 | 0=>rfl
 | k+1=>by
   simp only[zA,qh X Y k,qs,LK];cases zA X Y k with
   | none=>rfl
   | some s =>
     simp only[Option.map_some,Option.bind_some,NG]
     split<;>rfl
theorem Ng(X Y:j6):wY X (Y.map wR)=(wY X Y).map wR:=by
 unfold wY;rw[List.length_map]
 split
 ·exact qh X Y _
 ·rfl
theorem uE(l:j9):aw (l.map fun x=>-x)=(aw l).map wR:=by
 unfold aw;rw[List.map_map,List.map_map];rfl
def IJ(A:j7)(C:j6)(j:Nat):Prop :=
 (∃x:Int,C[j]?.getD (0,0)=(x,1)/\-1000000<=x/\x<=1000000)∨∃j',j'<C.length/\C[j']?.getD (0,0)=wR (C[j]?.getD (0,0))/\xD A j'=(xD A j).map fun x=>-x
theorem Ny(h:aV A Y C j=true):bj A Y C j=true:=by
 unfold aV at h;unfold bj;cases e:wY Y (aw (xD A j))with
 | none=>rw[e]at h;cases h
 | some v =>
   rw[e]at h;simp only[Bool.and_eq_true,decide_eq_true_eq]at h⊢;obtain⟨s1,s2,I,G⟩:=fW h.1;rw[eW s1 s2];have:=(eC I).1 h.2;rw[G]at this;grind
theorem sR{v:k5}(h1:-1000000<=x)(h2:x<=1000000)(hv:o5 v=true)(hc:o5 c=true)(e:val c=(x:Rat)-val v):xy (x,1) v=(c,true):=by
 have hb:=aQ hv;have kb:=aQ hc;have hx:o5 (x,1)=true:=(Fr.int x b9 b9).1;have hn:(x*v.2).natAbs<=1000000*1000000000:=by
  rw[Int.natAbs_mul];exact Nat.mul_le_mul b9 b9
 have key:(x*v.2-v.1*1)*c.2=c.1*(1*v.2):=by
  have a:=dO (show v.2≠0 by omega);have b:=dO (show c.2≠0 by omega);have:((x:Rat)*v.2-v.1)*c.2=c.1*v.2:=by unfold val at e;grind
  have h3:(x*v.2-v.1)*c.2=c.1*v.2:=by exact_mod_cast this
  grind
 unfold xy;rw[if_pos (by rw[hx,hv];rfl)];simp only;obtain⟨r,e1,e2⟩:=iE (n:=x*v.2-v.1*1) (d:=1*v.2) (x:=c.1) (D:=c.2) b9 b9 b9 b9 b9 b9 key;rw[e1];have:=Fr.eq e2 (Fr.self hc) rfl;rw[this]
theorem uL(hc:o5 c=true)(hn:∃x:Int,C[j]?.getD (0,0)=(x,1)/\-1000000<=x/\x<=1000000)(h:bj A Y C j=true)
 (e:∀v,wY Y (aw (xD A j))=some v->val c=val (C[j]?.getD (0,0))-val v):aV A Y C j=true:=by
 obtain⟨x,hx,h1,h2⟩:=hn;unfold bj at h;unfold aV;cases e0:wY Y (aw (xD A j))with
 | none=>rw[e0]at h;cases h
 | some v =>
   rw[e0]at h;have G:=e v e0;have hv:=(dK e0).2.1;simp only[hx,decide_eq_true_eq]at h G⊢;rw[bp]at G;rw[sR h1 h2 hv hc G];simp only[Bool.true_and,decide_eq_true_eq];rw[eC hc,G];have:=(eW (Fr.int x b9 b9).1 hv).1 h;rw[bp]at this;grind
theorem pG(h:o5 c=true):xy c c=((0,1),true):=by
 have hb:=aQ h;unfold xy;rw[if_pos (by rw[h];rfl),Int.sub_self];have hp:0<c.2*c.2:=Int.mul_pos b9 b9;obtain⟨r,e1,e2⟩:=iE (n:=0) (d:=c.2*c.2) (x:=0) (D:=1) hp b9 (Qv ⟨by omega,hb.2.1⟩ ⟨by omega,hb.2.1⟩).2 b9 b9 b9 b9;rw[e1];have:=Fr.eq e2 (Fr.int 0 b9 b9) rfl;rw[this]
theorem tK{I:Nat}(hv:o5 (C[j]?.getD (0,0))=true)(e1:C[I]?.getD (0,0)=wR (C[j]?.getD (0,0)))(e2:xD A I=(xD A j).map fun x=>-x)
 (h:bj A Y C j=true) (h':bj A Y C I=true):aV A Y C j=true:=by
 unfold bj at h h';unfold aV;rw[e2,uE,Ng,e1]at h';cases e0:wY Y (aw (xD A j))with
 | none=>rw[e0]at h;cases h
 | some v =>
   rw[e0]at h h';have Fi:=(dK e0).2.1;simp only[decide_eq_true_eq,Option.map_some]at h h';rw[eW hv Fi]at h;rw[eW (by rw[cX];exact hv) (by rw[cX];exact Fi),cH,cH]at h';have G:val (C[j]?.getD (0,0))=val v:=by grind
   have:=fV hv Fi G;simp only;rw[this,pG Fi];rfl
theorem ft(h:xF A B C=true):C.length<=70/\A.length<=8/\B.length=A.length/\(∀j,j<C.length->o5 (C[j]?.getD (0,0))=true) /\
 (∀i,i<A.length->(A[i]?.getD []).length=C.length/\∀x∈A[i]?.getD [],-5000<=x/\x<=5000)/\∀i,i<B.length->-5000<=B[i]?.getD 0/\B[i]?.getD 0<=5000:=by
 unfold xF yz at h;simp only[Bool.and_eq_true,decide_eq_true_eq,List.all_eq_true,wJ]at h;obtain⟨h1,h2,h3,h4,h5,G⟩:=h;refine⟨h1,h2,h3,fun j hj=>?_,fun i hi=>?_,fun i hi=>?_⟩
 ·rw[List.getElem?_eq_getElem hj];exact h4 _ (List.getElem_mem _)
 ·rw[List.getElem?_eq_getElem hi];exact h5 _ (List.getElem_mem _)
 ·rw[List.getElem?_eq_getElem hi];exact G _ (List.getElem_mem _)
theorem ei(b:Int):(b<0/\ys b=-1)∨(¬b<0/\ys b=1):=by
 unfold ys;by_cases h:b<0
 ·exact .inl ⟨h,if_pos h⟩
 ·exact .inr ⟨h,if_neg h⟩
theorem eG{i:Nat}(hl:(A[i]?.getD []).length=n)(hi:i<A.length):
 (cn A B i).length=n+A.length+1/\(∀j,j<n->(cn A B i)[j]?.getD (0,0)=(ys (B[i]?.getD 0)*(A[i]?.getD [])[j]?.getD 0,1))/\(∀k,k<A.length->(cn A B i)[n+k]?.getD (0,0)=if k=i then(1,1) else(0,1))/\(cn A B i)[n+A.length]?.getD (0,0)=(ys (B[i]?.getD 0)*B[i]?.getD 0,1):=by
 have e1:((A[i]?.getD []).map fun x=>(ys (B[i]?.getD 0)*x,(1:Int))).length=n:=by rw[List.length_map,hl]
 have e2:(nz A.length i).length=A.length:=by simp[nz]
 unfold cn;refine⟨by simp[hl,e2];omega,fun j hj=>?_,fun k hk=>?_,?_⟩
 ·rw[List.getElem?_append_left (by rw[List.length_append,e1];omega),List.getElem?_append_left b9,List.getElem?_map];rw[List.getElem?_eq_getElem (l:=A[i]?.getD []) (by rw[hl];exact hj)];rfl
 ·rw[List.getElem?_append_left (by rw[List.length_append,e1,e2];omega),List.getElem?_append_right b9,e1,Nat.add_sub_cancel_left];unfold nz;rw[List.getElem?_map,List.getElem?_range hk];rfl
 ·rw[List.getElem?_append_right (by rw[List.length_append,e1,e2];omega),List.length_append,e1,e2];simp
theorem eI(x:Int)(h:-1000000000<=x)(h':x<=1000000000):o5 (x,1)=true:=(Fr.int x h h').1
theorem fT(h:xF A B C=true):xY C.length A.length (fun k j=>o4 (cn A B k) j) (bF A B C.length):=by
 obtain⟨h1,h2,h3,h4,h5,K⟩:=ft h;have o9:∀i,i<A.length->(bF A B C.length).row i=cn A B i:=by
  intro i hi;unfold bF Tb.row;simp only[List.getElem?_map,List.getElem?_range hi,Option.map_some,Option.getD_some]
 refine⟨rfl,by simp[bF],by simp[bF],fun b hb=>?_,fun i hi=>?_,fun i hi=>?_⟩
 ·simp only[bF,List.mem_map,List.mem_range]at hb;obtain⟨i,hi,rfl⟩:=hb;omega
 ·rw[o9 i hi];obtain⟨r1,J,G,I⟩:=eG (B:=B) (h5 i hi).1 hi;refine⟨r1,fun j hj=>?_⟩;by_cases Ru:j<C.length
  ·rw[J j Ru];have hm:(A[i]?.getD [])[j]?.getD 0∈A[i]?.getD []:=by
    rw[List.getElem?_eq_getElem (l:=A[i]?.getD []) (by rw[(h5 i hi).1];exact Ru)];exact List.getElem_mem _
   have CO:=(h5 i hi).2 _ hm;refine eI _ ?_ ?_<;>rcases ei (B[i]?.getD 0)with⟨_,e⟩|⟨_,e⟩<;>rw[e]<;>omega
  ·by_cases FG:j<C.length+A.length
   ·obtain⟨k,rfl⟩:∃k,j=C.length+k:=⟨j-C.length,by omega⟩;rw[G k b9];split<;>rfl
   ·obtain rfl:j=C.length+A.length:=by omega
    rw[I];have:=K i b9;refine eI _ ?_ ?_<;>rcases ei (B[i]?.getD 0)with⟨_,e⟩|⟨_,e⟩<;>rw[e]<;>omega
 ·rw[o9 i hi];obtain⟨r1,J,G,I⟩:=eG (B:=B) (h5 i hi).1 hi;intro j hj;rw[cV (i:=i) hi]
  ·unfold o4;rw[G i hi,if_pos rfl];have:val (1,1)=1:=by unfold val;grind
   rw[this];grind
  ·intro k hk D8;unfold o4;rw[G k hk,if_neg D8];have:val (0,1)=0:=by unfold val;grind
   rw[this];grind
theorem eH(f:Nat->Rat):∀m,o0 (fun k=>- f k) m=- o0 f m
 | 0=>by simp[o0]
 | m+1=>by simp only[o0,eH f m];grind
theorem jU(b x:Int):val (ys b*x,1)=(ys b:Rat)*(x:Rat):=by rw[bp];exact_mod_cast rfl
theorem O3(b:Int):(ys b:Rat)*(ys b:Rat)=1:=by
 rcases ei b with⟨_,e⟩|⟨_,e⟩<;>rw[e]<;>grind
theorem uT(B:j9)(cs:j6)(n i:Nat):val (dm B cs n i)=- ((ys (B[i]?.getD 0):Rat)*o4 cs (n+i)):=by
 unfold dm Ac
 rcases ei (B[i]?.getD 0)with⟨h,e⟩|⟨h,e⟩
 ·rw[if_pos h,e,cH,cH];unfold o4;have:((-1:Int):Rat)=-1:=by exact_mod_cast rfl
  rw[this];grind
 ·rw[if_neg h,e,cH];unfold o4;have:((1:Int):Rat)=1:=by exact_mod_cast rfl
  rw[this];grind
theorem O8(ok:xF A B C=true){r:AT}(h:zf A B C=some r)(hs:r.status=1):
 ∃cs,eJ (C.length+A.length+1) cs/\r.Y.length=B.length/\r.value=wR (cs[C.length+A.length]?.getD (0,0))/\(∀j,j<C.length->o4 cs j=val (C[j]?.getD (0,0))-o0 (fun k=>o4 r.Y k*(((A[k]?.getD [])[j]?.getD 0:Int):Rat)) A.length) /\
   o4 cs (C.length+A.length)=- o0 (fun k=>o4 r.Y k*((B[k]?.getD 0:Int):Rat)) A.length:=by
 obtain⟨h1,h2,h3,h4,h5,h6⟩:=ft ok;unfold zf at h;rw[h3]at h;cases e1:aJ (bM C.length A.length) 1000 (bF A B C.length)with
 | none=>rw[e1]at h;cases h
 | some p1 =>
   rw[e1]at h;simp only[Option.bind_some]at h
   split at h
   ·rw[Option.map_eq_some_iff]at h;obtain⟨Y,_,rfl⟩:=h;cases hs
   ·cases e2:br C.length (p1.t,p1.left) A.length with
    | none=>rw[e2]at h;cases h
    | some s =>
      rw[e2]at h;simp only[Option.bind_some]at h;rw[Option.map_eq_some_iff]at h;obtain⟨p2,e3,h⟩:=h
      split at h
      ·subst h;cases hs
      ·have i1:=(dJ (fT ok) e1).1;have i2:=(fp (s:=(p1.t,p1.left)) i1 e2).1;obtain⟨i3,e4,_⟩:=dJ i2 e3;obtain⟨c1,c2⟩:=dT i3 e4;subst h;have AZ:∀j,(bK C A.length++[(0,1)])[j]?.getD (0,0)=if j<C.length then C[j]?.getD (0,0) else if j<C.length+A.length+1 then(0,1) else(0,0):=by
        intro j;unfold bK;by_cases hj:j<C.length
        ·rw[if_pos hj,List.append_assoc,List.getElem?_append_left hj]
        ·rw[if_neg hj,List.append_assoc,List.getElem?_append_right b9];have:List.replicate A.length ((0:Int),(1:Int))++[(0,1)]=List.replicate (A.length+1) (0,1):=by rw[List.replicate_succ']
         rw[this,List.getElem?_replicate];by_cases I:j<C.length+A.length+1
         ·rw[if_pos I,if_pos b9];rfl
         ·rw[if_neg I,if_neg b9];rfl
       have hz:∀k,k<A.length+1->o4 (bK C A.length++[(0,1)]) (C.length+k)=0:=by
        intro k hk;unfold o4;rw[AZ,if_neg b9,if_pos b9];unfold val;grind
       have hY:∀k,k<A.length->o4 ((List.range A.length).map (dm B p2.costs C.length)) k=- ((ys (B[k]?.getD 0):Rat)*o4 p2.costs (C.length+k)):=by
        intro k hk;unfold o4;rw[List.getElem?_map,List.getElem?_range hk,Option.map_some,Option.getD_some,uT];rfl
       refine⟨p2.costs,c1,by simp[h3],rfl,fun j hj=>?_,?_⟩
       ·have hr:=c2 j b9;have G:o4 (bK C A.length++[(0,1)]) j=val (C[j]?.getD (0,0)):=by unfold o4;rw[AZ,if_pos hj]
        have CF:o0 (fun k=>(o4 p2.costs (C.length+k)-o4 (bK C A.length++[(0,1)]) (C.length+k))*o4 (cn A B k) j) A.length=o0 (fun k=>- (o4 ((List.range A.length).map (dm B p2.costs C.length)) k*(((A[k]?.getD [])[j]?.getD 0:Int):Rat))) A.length :=
         aq fun k hk=>by
          rw[hz k b9,hY k hk];have:o4 (cn A B k) j=(ys (B[k]?.getD 0):Rat)*(((A[k]?.getD [])[j]?.getD 0:Int):Rat):=by
           unfold o4;rw[(eG (B:=B) (h5 k hk).1 hk).2.1 j hj,jU]
          rw[this];grind
        rw[CF,eH,G]at hr;simp only
        grind
       ·have hr:=c2 (C.length+A.length) b9;have CF:o0 (fun k=>(o4 p2.costs (C.length+k)-o4 (bK C A.length++[(0,1)]) (C.length+k))*o4 (cn A B k) (C.length+A.length)) A.length=o0 (fun k=>- (o4 ((List.range A.length).map (dm B p2.costs C.length)) k*((B[k]?.getD 0:Int):Rat))) A.length :=
         aq fun k hk=>by
          rw[hz k b9,hY k hk];have:o4 (cn A B k) (C.length+A.length)=(ys (B[k]?.getD 0):Rat)*((B[k]?.getD 0:Int):Rat):=by
           unfold o4;rw[(eG (B:=B) (h5 k hk).1 hk).2.2.2,jU]
          rw[this];grind
        rw[CF,eH,hz A.length b9]at hr;simp only
        grind
theorem nL(A:j7)(j k:Nat)(hk:k<A.length):(xD A j)[k]?.getD 0=(A[k]?.getD [])[j]?.getD 0:=by
 unfold xD;rw[List.getElem?_map,List.getElem?_eq_getElem hk];rfl
theorem Nt(ok:xF A B C=true)(hn:∀j,j<C.length->IJ A C j){r:AT}(h:zf A B C=some r):aD aV A B C r=aD bj A B C r:=by
 unfold aD
 split
 ·next hs =>
  obtain⟨cs,c1,c2,c3,c4,c5⟩:=O8 ok h hs;obtain⟨h1,h2,h3,h4,h5,h6⟩:=ft ok;have key:(List.range C.length).all (aV A r.Y C)=(List.range C.length).all (bj A r.Y C):=by
   rw[Bool.eq_iff_iff,List.all_eq_true,List.all_eq_true];constructor
   ·intro ha j hj;exact Ny (ha j hj)
   ·intro ha j hj;have hj':=List.mem_range.1 hj
    rcases hn j hj' with hi|⟨G,I,e1,e2⟩
    ·refine uL (c1.2 j b9) hi (ha j hj) fun v hv=>?_
     have:=c4 j hj';unfold o4 at this;rw[this];obtain⟨d1,d2,d3,d4⟩:=dK hv;rw[d4,c2,h3]
     congr 1
     refine aq fun k hk=>?_
     unfold o4;rw[fX (by simp[xD];omega),nL A j k hk,bp]
    ·exact tK (h4 j hj') e1 e2 (ha j hj) (ha G (List.mem_range.2 I))
  rw[key]
 ·rfl
theorem KQ(hn:xF A B C=true->∀j,j<C.length->IJ A C j):bV aV A B C=bV bj A B C:=by
 unfold bV
 split
 ·next ok =>
  cases e:zf A B C with
  | none=>rfl
  | some r=>simp only[Nt ok (hn ok) e]
 ·rfl
end Go.Proofs.YtalmoolkhcgmmaaGreat
