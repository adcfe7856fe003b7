import Derived.Test.YtdadoignenffgaaGreatDoorSvAllG13
import Derived.Test.YtdadoignenffgaaGreatDoorSvAllG1
import Derived.Test.YtdadoignenffgaaGreatDoorSvAllG6
set_option linter.unusedVariables false
set_option linter.unusedSimpArgs false
namespace Go.Proofs.YtdadoignenffgaaGreatDoor
variable{a b c:j8}{d x D:Int}{n m j:Nat}{r cost Y C:j4}{T0:Nat->Nat->Rat}{A:j5}{B:j7}
def uU(r:j8):j8:=(-r.1,r.2)
structure Tb  where
 rows:List (j4)
 basis:j7
 q8:Int
def Tb.row(t:Tb)(i:Nat):j4:=t.rows[i]?.getD []
def Tb.at(t:Tb)(i j:Nat):j8:=(t.row i)[j]?.getD (0,0)
variable{t:Tb}
def yO(t:Tb):Bool :=
 r' t.q8 0 1000&&(decide (t.basis.length=t.rows.length)&&(t.basis.all (fun b=>r' b 0 (t.q8+t.rows.length-1))&&t.rows.all (fun r=>decide ((r.length:Int)=t.q8+t.rows.length+1))))
def CF(A:j4)(p:j8)(i:Nat):Option (Int×Int):=if(xk (A[i]?.getD (0,0)) p).2=true then some (xk (A[i]?.getD (0,0)) p).1 else none
def Ad(A:j4)(p:j8):Option (j4):=runT (CF A p) A.length
def Ji(t:Tb)(row ve:Nat)(main:j4)(st:List (j4))(i:Nat):Option (List (j4)) :=
 if(i=row∨t.at i ve=(0,1)) then some st else(xP (t.row i) (uU (t.at i ve)) main).map fun r=>st.set i r
def xy(t:Tb)(row ve:Nat)(main:j4):Nat->Option (List (j4))
 | 0=>some (t.rows.set row main)
 | k+1=>(xy t row ve main k).bind fun st=>Ji t row ve main st k
def fm(t:Tb)(row ve:Nat):Option Tb :=
 (Ad (t.row row) (t.at row ve)).bind fun main=>(xy t row ve main t.rows.length).map fun rs=>⟨rs,t.basis.set row (ve:Int),t.q8⟩
def dT(t:Tb)(row ve:Int):Bool:=yO t&&(r' row 0 (t.rows.length-1)&&r' ve 0 (t.q8+t.rows.length-1))
def bo(t:Tb)(row ve:Int):Option Tb:=if dT t row ve=true then fm t row.toNat ve.toNat else none
def cG(t:Tb)(cost:j4):Nat->Option (j4)
 | 0=>some (cost++[(0,1)])
 | k+1=>(cG t cost k).bind fun out=>xP out (uU (cost[(t.basis[k]?.getD 0).toNat]?.getD (0,0))) (t.row k)
def lu(t:Tb)(cost:j4):Bool:=yO t&&(decide ((cost.length:Int)=t.q8+t.rows.length)&&xC cost)
def ch(t:Tb)(cost:j4):Option (j4):=if lu t cost=true then cG t cost t.rows.length else none
def yd(t:Tb):Nat->j4
 | 0=>List.replicate (t.q8.toNat+t.rows.length) (0,1)
 | k+1=>(yd t k).set (t.basis[k]?.getD 0).toNat (t.at k (t.q8.toNat+t.rows.length))
def xx(t:Tb):j4:=if yO t=true then yd t t.rows.length else []
def eG(c:j8):Bool:=decide (vP c (0,1)<0)
def aZ(costs:j4)(last:Int):Int:=if(costs.length:Int)<last then -1 else bX eG (costs.take last.toNat)
def dB(t:Tb)(ve:Nat)(st:Int×(Int×Int))(i:Nat):Int×(Int×Int) :=
 if vP (t.at i ve) (0,1)<=0 then st
 else if(xk (t.at i (t.q8.toNat+t.rows.length)) (t.at i ve)).2=false then st
 else if st.1<0∨vP (xk (t.at i (t.q8.toNat+t.rows.length)) (t.at i ve)).1 st.2<0∨(vP (xk (t.at i (t.q8.toNat+t.rows.length)) (t.at i ve)).1 st.2=0/\t.basis[i]?.getD 0<t.basis[st.1.toNat]?.getD 0)
  then((i:Int),(xk (t.at i (t.q8.toNat+t.rows.length)) (t.at i ve)).1) else st
def bO(t:Tb)(ve:Nat):Nat->Int×(Int×Int)
 | 0=>(-1,(0,0))
 | k+1=>dB t ve (bO t ve k) k
def cu(t:Tb)(ve:Int):Int:=if(yO t&&r' ve 0 (t.q8+t.rows.length-1))=true then(bO t ve.toNat t.rows.length).1 else -1
structure Ph  where
 t:Tb
 left:Nat
 costs:j4
 ve:Int
def aO(cost:j4):Nat->Tb->Option Ph
 | f,t=>match ch t cost with
   | none=>none
   | some cs =>
     if aZ cs t.q8<0 then some ⟨t,f,cs,-1⟩
     else if cu t (aZ cs t.q8)<0 then some ⟨t,f,cs,aZ cs t.q8⟩
     else match f with
      | 0=>none
      | f+1=>match bo t (cu t (aZ cs t.q8)) (aZ cs t.q8)with
        | none=>none
        | some t'=>aO cost f t'
def zq(c:j8):Bool:=decide (c≠(0,1))
def fN(n:Nat)(s:Tb×Nat)(k:Nat):Option (Tb×Nat) :=
 if s.1.basis[k]?.getD 0<n then some s
 else if bX zq ((s.1.row k).take n)<0 then some s
 else match s.2 with
  | 0=>none
  | f+1=>(bo s.1 k (bX zq ((s.1.row k).take n))).map fun t=>(t,f)
def aY(n:Nat)(s:Tb×Nat):Nat->Option (Tb×Nat)
 | 0=>some s
 | k+1=>(aY n s k).bind fun s'=>fN n s' k
def yh(b:Int):Int:=if b<0 then -1 else 1
def mh(m i:Nat):j4:=(List.range m).map fun k=>if k=i then(1,1) else(0,1)
def cj(A:j5)(B:j7)(i:Nat):j4 :=
 ((A[i]?.getD []).map fun x=>(yh (B[i]?.getD 0)*x,1))++mh A.length i++[(yh (B[i]?.getD 0)*B[i]?.getD 0,1)]
def bD(A:j5)(B:j7)(n:Nat):Tb:=⟨(List.range A.length).map (cj A B),(List.range A.length).map fun i=>((n+i:Nat):Int),n⟩
def xU(A B:j4):Nat->Option (Int×Int)
 | 0=>some (0,1)
 | k+1=>(xU A B k).bind fun s=>if(mulR (A[k]?.getD (0,0)) (B[k]?.getD (0,0))).2=true/\(we s (mulR (A[k]?.getD (0,0)) (B[k]?.getD (0,0))).1).2=true
     then some (we s (mulR (A[k]?.getD (0,0)) (B[k]?.getD (0,0))).1).1 else none
def vg(A B:j4):Option (Int×Int):=if A.length=B.length then xU A B A.length else none
def vG(A:j5)(B:j7)(C:j4):Bool :=
 decide (C.length<=70)&&(decide (A.length<=8)&&(decide (B.length=A.length)&&(xC C&&(A.all (fun r=>decide (r.length=C.length)&&r.all (r' · (-5000) 5000))&&B.all (r' · (-5000) 5000)))))
def vJ(A:j5)(j:Nat):j7:=A.map fun r=>r[j]?.getD 0
def Ax(x:j4):Bool:=x.all fun r=>o9 r&&decide (0<=r.1)
def dd(A:j5)(x:j4)(B:j7):Bool:=(List.range A.length).all fun i=>decide (vg (ar (A[i]?.getD [])) x=some (B[i]?.getD 0,1))
def dF(A:j5)(B:j7)(n:Nat)(x:j4):Bool:=decide (x.length=n)&&(Ax x&&dd A x B)
structure yu  where
 status:Int
 X:j4
 Y:j4
 zf:j4
 value:j8
 FP:Int
deriving DecidableEq
def aM(s:Int):yu:=⟨s,[],[],[],(0,0),0⟩
def am(A:j5)(Y C:j4)(j:Nat):Bool :=
 match vg Y (ar (vJ A j))with
 | none=>false
 | some v=>(vD (C[j]?.getD (0,0)) v).2&&decide (0<=(vD (C[j]?.getD (0,0)) v).1.1)
def aX(A:j5)(Y C:j4)(j:Nat):Bool :=
 match vg Y (ar (vJ A j))with
 | none=>false
 | some v=>decide (0<=vP (C[j]?.getD (0,0)) v)
def gm(B:j7)(C:j4)(r:yu):Bool :=
 match vg C r.X,vg r.Y (ar B)with
 | some x,some y=>decide (x=y)&&decide (x=r.value)
 | _,_=>false
def jM(A:j5)(B:j7)(n:Nat)(Y:j4):Bool :=
 (List.range n).all (fun j=>match vg Y (ar (vJ A j))with|none=>false|some v=>decide (v.1<=0))&&(match vg Y (ar B)with|none=>false|some v=>decide (0<v.1))
def Mo(A:j5)(B:j7)(C:j4)(zf:j4):Bool :=
 decide (zf.length=C.length)&&(Ax zf&&(dd A zf (List.replicate B.length 0)&&(match vg C zf with|none=>false|some v=>decide (v.1<0))))
def aG(bound:j5->j4->j4->Nat->Bool)(A:j5)(B:j7)(C:j4)(r:yu):Bool :=
 if r.status=1 then dF A B C.length r.X&&(decide (r.Y.length=B.length)&&((List.range C.length).all (bound A r.Y C)&&gm B C r))
 else if r.status=2 then decide (r.Y.length=B.length)&&jM A B C.length r.Y
 else if r.status=3 then dF A B C.length r.X&&Mo A B C r.zf
 else false
def yz(b:Int)(y:j8):j8:=if b<0 then uU y else y
def eN(B:j7)(base:j8)(cs:j4)(n i:Nat):Option (Int×Int) :=
 if(vD base (cs[n+i]?.getD (0,0))).2=true then some (yz (B[i]?.getD 0) (vD base (cs[n+i]?.getD (0,0))).1) else none
def dE(B:j7)(cs:j4)(n i:Nat):j8:=yz (B[i]?.getD 0) (uU (cs[n+i]?.getD (0,0)))
def xp(t:Tb)(n ve:Nat):Nat->j4
 | 0=>(List.range n).map fun j=>if j=ve then(1,1) else(0,1)
 | k+1=>if t.basis[k]?.getD 0<n then(xp t n ve k).set (t.basis[k]?.getD 0).toNat (uU (t.at k ve)) else xp t n ve k
def dI(n m:Nat):j4:=List.replicate n (0,1)++List.replicate m (1,1)
def bY(C:j4)(m:Nat):j4:=C++List.replicate m (0,1)
def xF(A:j5)(B:j7)(C:j4):Option yu :=
 (aO (dI C.length B.length) 1000 (bD A B C.length)).bind fun p1 =>
   if(p1.costs[C.length+B.length]?.getD (0,0)).1<0 then
    (runT (eN B (1,1) p1.costs C.length) B.length).map fun Y=>⟨2,[],Y,[],(0,0),1000-p1.left⟩
   else(aY C.length (p1.t,p1.left) B.length).bind fun s=>(aO (bY C B.length) s.2 s.1).map fun p2 =>
    if 0<=p2.ve then⟨3,(xx p2.t).take C.length,[],xp p2.t C.length p2.ve.toNat B.length,(0,0),1000-p2.left⟩
    else⟨1,(xx p2.t).take C.length,(List.range B.length).map (dE B p2.costs C.length),[],uU (p2.costs[C.length+B.length]?.getD (0,0)),1000-p2.left⟩
def be(bound:j5->j4->j4->Nat->Bool)(A:j5)(B:j7)(C:j4):yu :=
 if vG A B C=true then
  match xF A B C with
  | none=>aM 4
  | some r=>if aG bound A B C r=true then r else aM 4
 else aM 0
def Fr(p:j8)(x D:Int):Prop:=o9 p=true/\0<D/\p.1*D=x*p.2
theorem ia{p:j8}(h:o9 p=true):gI p.1 p.2=1:=by
 simp only[o9,Bool.and_eq_true,decide_eq_true_eq]at h;exact h.2.2
theorem jS{p:j8}(h1:1<=p.2)(h2:p.2<=1000000000)(h3:-1000000000<=p.1)(h4:p.1<=1000000000)(h5:gI p.1 p.2=1):o9 p=true:=by
 simp only[o9,r',Bool.and_eq_true,decide_eq_true_eq];omega
theorem gO(a b:Int):gI a b=1↔Nat.Coprime a.natAbs b.natAbs:=by unfold gI Int.gcd Nat.Coprime;omega
theorem pu{a b c:Int}(hb:0<b)(hd:0<d)(h1:gI a b=1)(h2:gI c d=1)(h:a*d=c*b):a=c/\b=d:=by
 rw[gO]at h1 h2;have hn:a.natAbs*d.natAbs=c.natAbs*b.natAbs:=by rw[<-Int.natAbs_mul,<-Int.natAbs_mul,h]
 have e1:b.natAbs∣d.natAbs:=Nat.Coprime.dvd_of_dvd_mul_left h1.symm ⟨c.natAbs,by rw[hn,Nat.mul_comm]⟩;have e2:d.natAbs∣b.natAbs:=Nat.Coprime.dvd_of_dvd_mul_left h2.symm ⟨a.natAbs,by rw[<-hn,Nat.mul_comm]⟩;have e3:b=d:=by have:=Nat.dvd_antisymm e1 e2;omega
 subst e3;exact⟨Int.eq_of_mul_eq_mul_right e7 h,rfl⟩
theorem Fr.eq{p q:j8}{y E:Int}(h:Fr p x D)(k:Fr q y E)(e:x*E=y*D):p=q:=by
 obtain⟨h1,h2,h3⟩:=h;obtain⟨k1,k2,k3⟩:=k;have hb:=(aL h1).1;have kb:=(aL k1).1;have key:(p.1*q.2)*(D*E)=(q.1*p.2)*(D*E):=by grind
 have YZ:D*E≠0:=Int.mul_ne_zero e7 e7;have:=pu e7 e7 (ia h1) (ia k1) (Int.eq_of_mul_eq_mul_right YZ key);exact Prod.ext this.1 this.2
theorem Fr.int(c:Int)(h:-1000000000<=c)(h':c<=1000000000):Fr (c,1) c 1 :=
 ⟨jS e8 e8 h h' (by rw[gO];simp),by omega,rfl⟩
theorem Fr.self{p:j8}(h:o9 p=true):Fr p p.1 p.2:=⟨h,by have:=(aL h).1;omega,rfl⟩
theorem kA(n d:Int)(hd:0<d):1<=gI n d/\n=gI n d*n.tdiv (gI n d)/\d=gI n d*d.tdiv (gI n d)/\0<d.tdiv (gI n d):=by
 have hg:=jq n (show d≠0 by omega);obtain⟨k,hk⟩:=mu n d;obtain⟨m,hm⟩:=jJ n d;have h1:n.tdiv (gI n d)=k:=by
    conv=>lhs;arg 1;rw[hk]
    exact Int.mul_tdiv_cancel_left _ e7
 have h2:d.tdiv (gI n d)=m:=by
    conv=>lhs;arg 1;rw[hm]
    exact Int.mul_tdiv_cancel_left _ e7
 rw[h1,h2];refine⟨hg,hk,hm,?_⟩
 rcases Int.lt_or_le 0 m with h|h
 ·exact h
 ·have:gI n d*m<=0:=Int.mul_nonpos_of_nonneg_of_nonpos e7 h;omega
theorem nW{n:Int}(hd:0<d)(hn:-1000000000000000000<=n/\n<=1000000000000000000)(hd':d<=1000000000000000000):az n d=xI (n.tdiv (gI n d),d.tdiv (gI n d)):=by
 unfold az;rw[if_neg (by simp[r'];omega),if_neg e7]
theorem sS{n:Int}(hd:0<d)(I:0<D)(hn:-1000000000000000000<=n/\n<=1000000000000000000)(E:d<=1000000000000000000)(hx:-1000000000000000000<=x/\x<=1000000000000000000)(G:D<=1000000000000000000)(e:n*D=x*d):az n d=az x D:=by
 rw[nW hd hn E,nW I hx G];obtain⟨g1,g2,g3,g4⟩:=kA n d hd;obtain⟨k1,k2,K,J⟩:=kA x D I;have key:(n.tdiv (gI n d)*D.tdiv (gI x D))*(gI n d*gI x D)=(x.tdiv (gI x D)*d.tdiv (gI n d))*(gI n d*gI x D):=by
  have a1:(n.tdiv (gI n d)*D.tdiv (gI x D))*(gI n d*gI x D)=(gI n d*n.tdiv (gI n d))*(gI x D*D.tdiv (gI x D)):=by grind
  have a2:(x.tdiv (gI x D)*d.tdiv (gI n d))*(gI n d*gI x D)=(gI x D*x.tdiv (gI x D))*(gI n d*d.tdiv (gI n d)):=by grind
  rw[a1,a2,<-g2,<-g3,<-k2,<-K,e]
 have hne:gI n d*gI x D≠0:=Int.mul_ne_zero e7 e7;have:=pu g4 J (jp n d hd) (jp x D I) (Int.eq_of_mul_eq_mul_right hne key);rw[this.1,this.2]
theorem iX{n:Int}(hd:0<d)(h:(az n d).2=true):Fr (az n d).1 n d:=by
 refine⟨ip h,hd,?_⟩;unfold az at h⊢
 split at h
 ·simp at h
 ·next h0 =>
  rw[if_neg h0]
  split at h
  ·omega
  ·next h1 =>
   rw[if_neg h1];unfold xI at h⊢
   split at h
   ·next h2 =>
    rw[if_pos h2];obtain⟨g1,g2,g3,g4⟩:=kA n d hd;simp only;generalize n.tdiv (gI n d)=k at *;generalize d.tdiv (gI n d)=m at *;generalize gI n d=g at *;subst g2;grind
   ·simp at h
theorem kL{n:Int}(hd:0<d)(hn:-1000000000000000000<=n/\n<=1000000000000000000)(E:d<=1000000000000000000)(I:0<D)(G:D<=1000000000)(hx:-1000000000<=x/\x<=1000000000)(e:n*D=x*d):
 ∃r,az n d=(r,true)/\Fr r x D:=by
 have h1:=sS hd I hn E e7 e7 e;have h2:=Jb (n:=x) (d:=D) e7 G hx.1 hx.2;exact⟨(az x D).1,by rw[h1,<-h2],iX I h2⟩
theorem Ua{p q:Int}(h:-1000000000<=p/\p<=1000000000)(k:-1000000000<=q/\q<=1000000000):-1000000000000000000<=p*q/\p*q<=1000000000000000000:=Js h.1 h.2 k.1 k.2
theorem Fr.add{p q:j8}{y E z F:Int}(h:Fr p x D)(k:Fr q y E)(hF:0<F)(hF':F<=1000000000)(hz:-1000000000<=z/\z<=1000000000)(hs:-1000000000000000000<=p.1*q.2+q.1*p.2/\p.1*q.2+q.1*p.2<=1000000000000000000)(e:(x*E+y*D)*F=z*(D*E)):∃r,we p q=(r,true)/\Fr r z F:=by
 obtain⟨h1,h2,h3⟩:=h;obtain⟨k1,k2,I⟩:=k;have hb:=aL h1;have G:=aL k1;have hp:0<p.2*q.2:=Int.mul_pos e7 e7;have YZ:D*E≠0:=Int.mul_ne_zero e7 e7;unfold we;rw[if_pos (by rw[h1,k1];rfl)];refine kL hp hs (Ua ⟨by omega,hb.2.1⟩ ⟨by omega,G.2.1⟩).2 hF hF' hz ?_;refine Int.eq_of_mul_eq_mul_right YZ ?_;have:(p.1*q.2+q.1*p.2)*F*(D*E)=((p.1*D)*(q.2*E)+(q.1*E)*(p.2*D))*F:=by grind
 rw[this,h3,I];have:(x*p.2*(q.2*E)+y*q.2*(p.2*D))*F=((x*E+y*D)*F)*(p.2*q.2):=by grind
 rw[this,e];grind
theorem Fr.size{p:j8}(h:Fr p x D):p.2<=D/\p.1.natAbs<=x.natAbs:=by
 obtain⟨h1,h2,h3⟩:=h;have hb:=aL h1;have hc:=ia h1;rw[gO]at hc;have hn:p.1.natAbs*D.natAbs=x.natAbs*p.2.natAbs:=by rw[<-Int.natAbs_mul,<-Int.natAbs_mul,h3]
 have e1:p.2.natAbs∣D.natAbs:=Nat.Coprime.dvd_of_dvd_mul_left hc.symm ⟨x.natAbs,by rw[hn,Nat.mul_comm]⟩;have e2:=Nat.le_of_dvd e7 e1;refine⟨by omega,?_⟩;have e3:p.1.natAbs*p.2.natAbs<=x.natAbs*p.2.natAbs:=by rw[<-hn];exact Nat.mul_le_mul_left _ e2
 exact Nat.le_of_mul_le_mul_right e3 e7
def val(r:j8):Rat:=(r.1:Rat)/(r.2:Rat)
theorem ej(h:d≠0):(d:Rat)≠0:=by exact_mod_cast h
theorem IL{r:j8}{n:Int}(h:Fr r n d):val r=(n:Rat)/(d:Rat):=by
 obtain⟨h1,h2,h3⟩:=h;have hb:=(aL h1).1;have e:(r.1:Rat)*(d:Rat)=(n:Rat)*(r.2:Rat):=by exact_mod_cast h3
 have a:=ej (show d≠0 by omega);have b:=ej (show r.2≠0 by omega);unfold val
 grind
theorem val_inj{p q:j8}(hp:o9 p=true)(hq:o9 q=true)(h:val p=val q):p=q:=by
 have hb:=(aL hp).1;have kb:=(aL hq).1;have a:=ej (show p.2≠0 by omega);have b:=ej (show q.2≠0 by omega);have e:(p.1:Rat)*(q.2:Rat)=(q.1:Rat)*(p.2:Rat):=by unfold val at h;grind
 have e':p.1*q.2=q.1*p.2:=by exact_mod_cast e
 have:=pu e7 e7 (ia hp) (ia hq) e';exact Prod.ext this.1 this.2
theorem mi{p q:j8}(hp:o9 p=true)(hq:o9 q=true):0<=vP p q↔val q<=val p:=by
 have hb:=(aL hp).1;have kb:=(aL hq).1;have a:(0:Rat)<(p.2:Rat):=by exact_mod_cast (show 0<p.2 by omega)
 have b:(0:Rat)<(q.2:Rat):=by exact_mod_cast (show 0<q.2 by omega)
 have e:0<=vP p q↔q.1*p.2<=p.1*q.2:=by
  unfold vP;rw[if_pos (by rw[hp,hq];rfl)]
  split
  ·omega
  ·split<;>omega
 rw[e];have e2:q.1*p.2<=p.1*q.2↔(q.1:Rat)*p.2<=(p.1:Rat)*q.2:=by
  constructor
  ·intro h;exact_mod_cast h
  ·intro h;exact_mod_cast h
 rw[e2];have x1:(p.1:Rat)=val p*p.2:=by unfold val;grind
 have x2:(q.1:Rat)=val q*q.2:=by unfold val;grind
 have Ku:(0:Rat)<(p.2:Rat)*q.2:=Rat.mul_pos a b;have E:(q.1:Rat)*p.2=val q*((p.2:Rat)*q.2):=by rw[x2];grind
 have x4:(p.1:Rat)*q.2=val p*((p.2:Rat)*q.2):=by rw[x1];grind
 rw[E,x4];exact⟨fun h=>Rat.le_of_mul_le_mul_right h Ku,fun h=>Rat.mul_le_mul_of_nonneg_right h (by grind)⟩
theorem fu{p:j8}(hp:o9 p=true):0<=p.1↔0<=val p:=by
 have hb:=(aL hp).1;have a:(0:Rat)<(p.2:Rat):=by exact_mod_cast (show 0<p.2 by omega)
 have x1:(p.1:Rat)=val p*p.2:=by unfold val;grind
 have e:0<=p.1↔(0:Rat)*p.2<=val p*p.2:=by
  rw[<-x1];constructor
  ·intro h;have:(0:Rat)<=(p.1:Rat):=by exact_mod_cast h
   grind
  ·intro h;have:(0:Rat)<=(p.1:Rat):=by grind
   exact_mod_cast this
 rw[e];exact⟨fun h=>Rat.le_of_mul_le_mul_right h a,fun h=>Rat.mul_le_mul_of_nonneg_right h (by grind)⟩
theorem ed(x:Int):val (x,1)=(x:Rat):=by unfold val;grind
theorem fg(r:j8):val (uU r)=- val r:=by
 unfold val uU;have:((-r.1:Int):Rat)=- (r.1:Rat):=by exact_mod_cast rfl
 simp only[this];grind
theorem dh(r:j8):o9 (uU r)=o9 r:=ib r.1 r.2
theorem mD(n b:Int):r' (-n) (-b) b=r' n (-b) b:=by
 unfold r';rw[Bool.eq_iff_iff];simp;omega
theorem pG(n d:Int):az (-n) (-d)=az n d:=by
 unfold az;have h1:=mD n 1000000000000000000;have h2:=mD d 1000000000000000000;rw[gD,jK,h1,h2];by_cases hd:d=0
 ·subst hd;simp
 ·have:-d≠0:=by omega
  simp only[hd,this,false_or]
  split
  ·rfl
  ·by_cases hn:d<0
   ·rw[if_neg e7,if_pos hn];simp[Int.neg_tdiv,Int.tdiv_neg]
   ·rw[if_pos e7,if_neg hn];simp[Int.neg_tdiv,Int.tdiv_neg]
theorem nX(n d:Int):az (-n) d=(uU (az n d).1,(az n d).2):=by
 unfold az;have h1:=mD n 1000000000000000000;rw[gD,h1];have hc:∀a b:Int,xI (-a,b)=(uU (xI (a,b)).1,(xI (a,b)).2):=by
  intro a b;unfold xI;rw[ib]
  split<;>rfl
 split
 ·rfl
 ·split
  ·rw[Int.neg_tdiv,hc]
  ·rw[Int.neg_tdiv,hc]
theorem jG{n:Int}(h:(az n d).2=true):d≠0/\o9 (az n d).1=true/\val (az n d).1=(n:Rat)/(d:Rat):=by
 have hd:d≠0:=by
  intro h0;subst h0;simp[az]at h
 refine⟨hd,ip h,?_⟩
 rcases Int.lt_or_gt_of_ne hd with hlt|AX
 ·have e:=pG n d;rw[<-e]at h⊢;have:=IL (iX e7 h);rw[this];have a:=ej hd;have e1:((-n:Int):Rat)=- (n:Rat):=by exact_mod_cast rfl
  have e2:((-d:Int):Rat)=- (d:Rat):=by exact_mod_cast rfl
  rw[e1,e2];grind
 ·exact IL (iX AX h)
theorem both{a b:Bool}(h:(a&&b)=true):a=true/\b=true:=by simpa using h
theorem jT(h:(we a b).2=true):o9 a=true/\o9 b=true/\o9 (we a b).1=true/\val (we a b).1=val a+val b:=by
 unfold we at h⊢
 split at h
 ·next h1 =>
  rw[if_pos h1];obtain⟨ha,hb⟩:=both h1;obtain⟨h2,h3,h4⟩:=jG h;refine⟨ha,hb,h3,?_⟩;rw[h4];have e1:=ej (show a.2≠0 by have:=(aL ha).1;omega);have e2:=ej (show b.2≠0 by have:=(aL hb).1;omega);unfold val;simp only[Rat.intCast_add,Rat.intCast_mul]
  grind
 ·simp at h
theorem jU(h:(vD a b).2=true):o9 a=true/\o9 b=true/\o9 (vD a b).1=true/\val (vD a b).1=val a-val b:=by
 rw[<-qk]at h⊢;obtain⟨h1,h2,h3,h4⟩:=jT h;rw[ib]at h2;refine⟨h1,h2,h3,?_⟩;rw[h4];have:=fg b;unfold uU at this;rw[this];grind
theorem rP(h:(mulR a b).2=true):o9 a=true/\o9 b=true/\o9 (mulR a b).1=true/\val (mulR a b).1=val a*val b:=by
 unfold mulR at h⊢
 split at h
 ·next h1 =>
  rw[if_pos h1];obtain⟨ha,hb⟩:=both h1;obtain⟨h2,h3,h4⟩:=jG h;refine⟨ha,hb,h3,?_⟩;rw[h4];have e1:=ej (show a.2≠0 by have:=(aL ha).1;omega);have e2:=ej (show b.2≠0 by have:=(aL hb).1;omega);unfold val;simp only[Rat.intCast_mul]
  grind
 ·simp at h
theorem Mg(h:(xk a b).2=true):o9 a=true/\o9 b=true/\o9 (xk a b).1=true/\val b≠0/\val (xk a b).1=val a/val b:=by
 unfold xk at h⊢
 split at h
 ·next h1 =>
  rw[if_pos h1];obtain⟨ha,hb⟩:=both h1;obtain⟨h2,h3,h4⟩:=jG h;have e1:=ej (show a.2≠0 by have:=(aL ha).1;omega);have e2:=ej (show b.2≠0 by have:=(aL hb).1;omega);have e3:=ej (show b.1≠0 by intro h0;rw[h0]at h2;simp at h2);refine⟨ha,hb,h3,?_,?_⟩
  ·unfold val;grind
  ·rw[h4];unfold val;simp only[Rat.intCast_mul]
   grind
 ·simp at h
theorem tZ(a b:j8):mulR a b=mulR b a:=by
 unfold mulR;rw[Bool.and_comm,Int.mul_comm a.1,Int.mul_comm a.2]
theorem Jt(a b:j8):mulR a (uU b)=(uU (mulR a b).1,(mulR a b).2):=by
 unfold mulR;rw[dh]
 split
 ·have:a.1*(uU b).1=-(a.1*b.1):=by unfold uU;simp only;grind
  rw[this,nX];rfl
 ·rfl
theorem KW(a b:j8):we (uU a) (uU b)=(uU (we a b).1,(we a b).2):=by
 unfold we;rw[dh,dh]
 split
 ·have:(uU a).1*(uU b).2+(uU b).1*(uU a).2=-(a.1*b.2+b.1*a.2):=by unfold uU;simp only;grind
  rw[this,nX];rfl
 ·rfl
def r7(f:Nat->Rat):Nat->Rat
 | 0=>0
 | k+1=>r7 f k+f k
theorem hO(f g:Nat->Rat)(c:Rat):∀m,r7 (fun k=>f k+c*g k) m=r7 f m+c*r7 g m
 | 0=>by simp[r7];grind
 | m+1=>by simp only[r7,hO f g c m];grind
theorem br{f g:Nat->Rat}:∀{m},(∀k,k<m->f k=g k)->r7 f m=r7 g m
 | 0,_=>rfl
 | m+1,h=>by simp only[r7,br (m:=m) (fun k hk=>h k e7),h m e7]
theorem em{f:Nat->Rat}:∀{m},(∀k,k<m->f k=0)->r7 f m=0
 | 0,_=>rfl
 | m+1,h=>by simp only[r7,em (m:=m) (fun k hk=>h k e7),h m e7];grind
theorem qn{f:Nat->Rat}{i:Nat}:∀{m},i<m->(∀k,k<m->k≠i->f k=0)->r7 f m=f i
 | 0,hi,_=>absurd hi e7
 | m+1,hi,h=>by
   by_cases him:i=m
   ·subst him;simp only[r7];rw[em (fun k hk=>h k e7 e7)];grind
   ·simp only[r7];rw[qn (m:=m) e7 (fun k hk Aq=>h k e7 Aq),h m e7 e7];grind
def Rel(n m:Nat)(T0:Nat->Nat->Rat)(c f:Nat->Rat):Prop:=∀j,j<n+m+1->f j-c j=r7 (fun k=>(f (n+k)-c (n+k))*T0 k j) m
theorem Rel.add{c f g h:Nat->Rat}{k:Rat}(hf:Rel n m T0 c f)(hg:Rel n m T0 (fun _=>0) g)(hh:∀j,j<n+m+1->h j=f j+k*g j):Rel n m T0 c h:=by
 intro j hj;have h1:=hf j hj;have h2:=hg j hj;rw[hh j hj];have e:r7 (fun i=>(h (n+i)-c (n+i))*T0 i j) m=r7 (fun i=>(f (n+i)-c (n+i))*T0 i j+k*((g (n+i)-0)*T0 i j)) m :=
  br fun i hi=>by rw[hh (n+i) e7];grind
 rw[e,hO,<-h1,<-h2];grind
theorem Rel.scale{g h:Nat->Rat}{k:Rat}(hg:Rel n m T0 (fun _=>0) g)(hh:∀j,j<n+m+1->h j=k*g j):Rel n m T0 (fun _=>0) h:=by
 have h0:Rel n m T0 (fun _=>0) (fun _=>0):=by
  intro j hj;rw[em (fun k hk=>by grind)];grind
 exact Rel.add h0 hg (k:=k) (fun j hj=>by rw[hh j hj];grind)
def r8(r:j4)(j:Nat):Rat:=val (r[j]?.getD (0,0))
def iU(N:Nat)(r:j4):Prop:=r.length=N/\∀j,j<N->o9 (r[j]?.getD (0,0))=true
theorem og{A B:j4}{k:j8}(h:xP A k B=some r):A.length=B.length/\r.length=A.length/\∀j,j<A.length->o9 (r[j]?.getD (0,0))=true/\r8 r j=r8 A j+val k*r8 B j:=by
 unfold xP at h
 split at h
 ·next hl =>
  refine⟨hl,dp h,fun j hj=>?_⟩;have hs:=jN h j hj;unfold BN at hs
  split at hs
  ·next h2 =>
   simp only[Option.some.injEq]at hs;obtain⟨e1,e2⟩:=h2;obtain⟨_,_,_,m4⟩:=rP e1;obtain⟨_,_,a3,a4⟩:=jT e2;rw[<-hs];refine⟨a3,?_⟩;unfold r8;rw[<-hs,a4,m4]
  ·cases hs
 ·cases h
theorem tF{A:j4}{p:j8}(h:Ad A p=some r):r.length=A.length/\∀j,j<A.length->o9 (r[j]?.getD (0,0))=true/\val p≠0/\r8 r j=r8 A j/val p:=by
 refine⟨dp h,fun j hj=>?_⟩;have hs:=jN h j hj;unfold CF at hs
 split at hs
 ·next h2 =>
  simp only[Option.some.injEq]at hs;obtain⟨_,_,d3,d4,d5⟩:=Mg h2;rw[<-hs];refine⟨d3,d4,?_⟩;unfold r8;rw[<-hs,d5]
 ·cases hs
structure wo(n m:Nat)(T0:Nat->Nat->Rat)(t:Tb):Prop where
 q8:t.q8=n
 len:t.rows.length=m
 zM:t.basis.length=m
 NF:∀b∈t.basis,0<=b/\b<n+m
 row:∀i,i<m->iU (n+m+1) (t.row i)
 rel:∀i,i<m->Rel n m T0 (fun _=>0) (r8 (t.row i))
theorem wo.ok(h:wo n m T0 t)(hn:n<=1000):yO t=true:=by
 unfold yO;have hc:=h.q8;have hl:=h.len;simp only[Bool.and_eq_true,r',decide_eq_true_eq,List.all_eq_true];refine⟨by omega,by rw[h.zM,hl],fun b hb=>?_,fun r hr=>?_⟩
 ·have:=h.NF b hb;omega
 ·obtain⟨i,hi,rfl⟩:=List.mem_iff_getElem.1 hr;have:=(h.row i e7).1;unfold Tb.row at this;rw[List.getElem?_eq_getElem hi,Option.getD_some]at this;omega
theorem rG{rs:List (j4)}{i k:Nat}(hi:i<rs.length):(rs.set i r)[k]?.getD []=if k=i then r else rs[k]?.getD []:=by
 by_cases h:k=i
 ·subst h;rw[if_pos rfl];simp[hi]
 ·rw[if_neg h,List.getElem?_set_ne (fun e=>h e.symm)]
theorem nV{n m:Nat}{T0:Nat->Nat->Rat}{t:Tb}(h:wo n m T0 t){row ve:Nat}(hr:row<m){main:j4}(I:iU (n+m+1) main)(GC:Rel n m T0 (fun _=>0) (r8 main)):
 ∀{k:Nat} {st:List (j4)},k<=m->xy t row ve main k=some st->st.length=m/\∀i,i<m->iU (n+m+1) (st[i]?.getD [])/\Rel n m T0 (fun _=>0) (r8 (st[i]?.getD []))
 | 0,st,hk,e=>by
   simp only[xy,Option.some.injEq]at e;subst e;refine⟨by rw[List.length_set,h.len],fun i hi=>?_⟩;rw[rG (by rw[h.len];exact hr)]
   split
   ·exact⟨I,GC⟩
   ·exact⟨h.row i hi,h.rel i hi⟩
 | k+1,st,hk,e=>by
   simp only[xy]at e;cases e0:xy t row ve main k with
   | none=>rw[e0]at e;cases e
   | some s0 =>
     rw[e0]at e;simp only[Option.bind_some]at e;obtain⟨hl,hs⟩:=nV h hr I GC e7 e0;unfold Ji at e
     split at e
     ·simp only[Option.some.injEq]at e;subst e;exact⟨hl,hs⟩
     ·cases e1:xP (t.row k) (uU (t.at k ve)) main with
      | none=>rw[e1]at e;cases e
      | some r =>
        rw[e1]at e;simp only[Option.map_some,Option.some.injEq]at e;subst e;obtain⟨s1,s2,G⟩:=og e1;have E:=(h.row k e7).1;refine⟨by rw[List.length_set,hl],fun i hi=>?_⟩;rw[rG (by rw[hl];omega)]
        split
        ·refine⟨⟨by rw[s2,E],fun j hj=>(G j (by rw[E];exact hj)).1⟩,?_⟩;exact Rel.add (h.rel k e7) GC (k:=val (uU (t.at k ve))) (fun j hj=>(G j (by rw[E];exact hj)).2)
        ·exact hs i hi
theorem eQ{G:Tb}(h:wo n m T0 t){row ve:Int}(e:bo t row ve=some G):wo n m T0 G:=by
 unfold bo at e
 split at e
 ·next ha =>
  unfold dT at ha;simp only[Bool.and_eq_true,r',decide_eq_true_eq]at ha;have hc:=h.q8;have hl:=h.len;have o7:row.toNat<m:=by omega
  have A9:ve.toNat<n+m:=by omega
  unfold fm at e;cases e0:Ad (t.row row.toNat) (t.at row.toNat ve.toNat)with
  | none=>rw[e0]at e;cases e
  | some main =>
    rw[e0]at e;simp only[Option.bind_some]at e;cases e1:xy t row.toNat ve.toNat main t.rows.length with
    | none=>rw[e1]at e;cases e
    | some rs =>
      rw[e1]at e;simp only[Option.map_some,Option.some.injEq]at e;subst e;obtain⟨d1,d2⟩:=tF e0;have E:=(h.row _ o7).1;have I:iU (n+m+1) main:=⟨by rw[d1,E],fun j hj=>(d2 j (by rw[E];exact hj)).1⟩
      have GC:Rel n m T0 (fun _=>0) (r8 main):=Rel.scale (h.rel _ o7) (k:=1/val (t.at row.toNat ve.toNat)) (fun j hj=>by
       have:=(d2 j (by rw[E];exact hj)).2
       rw[this.2];have:=this.1;grind)
      obtain⟨p1,p2⟩:=nV h o7 I GC e7 e1
      exact⟨hc,p1,by simp[h.zM],fun b hb=>by
       rcases List.mem_or_eq_of_mem_set hb with h1|h1
       ·exact h.NF b h1
       ·omega,fun i hi=>(p2 i hi).1,fun i hi=>(p2 i hi).2⟩
 ·cases e
theorem ls{n m:Nat}{T0:Nat->Nat->Rat}{t:Tb}(h:wo n m T0 t){cost:j4}(hl:cost.length=n+m)(hv:∀j,j<n+m->o9 (cost[j]?.getD (0,0))=true):
 ∀{k:Nat} {cs:j4},k<=m->cG t cost k=some cs->iU (n+m+1) cs/\Rel n m T0 (r8 (cost++[(0,1)])) (r8 cs)
 | 0,cs,hk,e=>by
   simp only[cG,Option.some.injEq]at e;subst e;refine⟨⟨by simp[hl],fun j hj=>?_⟩,?_⟩
   ·by_cases G:j<n+m
    ·rw[List.getElem?_append_left e7];exact hv j G
    ·obtain rfl:j=n+m:=by omega
     rw[<-hl,List.getElem?_concat_length,Option.getD_some];rfl
   ·intro j hj;rw[em (fun k hk=>by grind)];grind
 | k+1,cs,hk,e=>by
   simp only[cG]at e;cases e0:cG t cost k with
   | none=>rw[e0]at e;cases e
   | some c0 =>
     rw[e0]at e;simp only[Option.bind_some]at e;obtain⟨⟨h1,h2⟩,h3⟩:=ls h hl hv e7 e0;obtain⟨s1,s2,E⟩:=og e;exact⟨⟨by rw[s2,h1],fun j hj=>(E j (by rw[h1];exact hj)).1⟩,Rel.add h3 (h.rel k e7) (fun j hj=>(E j (by rw[h1];exact hj)).2)⟩
theorem dW(h:wo n m T0 t){cs:j4}(e:ch t cost=some cs):iU (n+m+1) cs/\Rel n m T0 (r8 (cost++[(0,1)])) (r8 cs):=by
 unfold ch at e
 split at e
 ·next ho =>
  unfold lu xC at ho;simp only[Bool.and_eq_true,decide_eq_true_eq,List.all_eq_true]at ho;have hc:=h.q8;have hl:=h.len;have hlen:cost.length=n+m:=by omega
  rw[hl]at e;exact ls h hlen (fun j hj=>by rw[List.getElem?_eq_getElem e7];exact ho.2.2 _ (List.getElem_mem _)) (Nat.le_refl _) e
 ·cases e
theorem du:∀{f:Nat} {t:Tb} {p:Ph},wo n m T0 t->aO cost f t=some p->wo n m T0 p.t/\ch p.t cost=some p.costs/\p.left<=f:=by
 intro f
 induction f with
 | zero =>
   intro t p h e;unfold aO at e;cases e0:ch t cost with
   | none=>rw[e0]at e;cases e
   | some cs =>
     rw[e0]at e;simp only at e
     split at e
     ·simp only[Option.some.injEq]at e;subst e;exact⟨h,e0,Nat.le_refl _⟩
     ·split at e
      ·simp only[Option.some.injEq]at e;subst e;exact⟨h,e0,Nat.le_refl _⟩
      ·cases e
 | succ f ih =>
   intro t p h e;unfold aO at e;cases e0:ch t cost with
   | none=>rw[e0]at e;cases e
   | some cs =>
     rw[e0]at e;simp only at e
     split at e
     ·simp only[Option.some.injEq]at e;subst e;exact⟨h,e0,Nat.le_refl _⟩
     ·split at e
      ·simp only[Option.some.injEq]at e;subst e;exact⟨h,e0,Nat.le_refl _⟩
      ·cases e1:bo t (cu t (aZ cs t.q8)) (aZ cs t.q8)with
       | none=>rw[e1]at e;cases e
       | some t' =>
         rw[e1]at e;obtain⟨a,b,c⟩:=ih (eQ h e1) e;exact⟨a,b,by omega⟩
theorem eM{n m:Nat}{T0:Nat->Nat->Rat}{G:Nat}{s:Tb×Nat}(h:wo n m T0 s.1):∀{k:Nat} {E:Tb×Nat},aY G s k=some E->wo n m T0 E.1/\E.2<=s.2
 | 0,E,e=>by simp only[aY,Option.some.injEq]at e;subst e;exact⟨h,Nat.le_refl _⟩
 | k+1,E,e=>by
   simp only[aY]at e;cases e0:aY G s k with
   | none=>rw[e0]at e;cases e
   | some s1 =>
     rw[e0]at e;simp only[Option.bind_some]at e;obtain⟨h1,h2⟩:=eM h e0;unfold fN at e
     split at e
     ·simp only[Option.some.injEq]at e;subst e;exact⟨h1,h2⟩
     ·split at e
      ·simp only[Option.some.injEq]at e;subst e;exact⟨h1,h2⟩
      ·split at e
       ·cases e
       ·next f hf =>
        rw[Option.map_eq_some_iff]at e;obtain⟨t',e1,rfl⟩:=e;exact⟨eQ h1 e1,by show f<=s.2;omega⟩
theorem mY{X Y:j4}:∀{k:Nat} {v:j8},xU X Y k=some v->o9 v=true/\(∀j,j<k->o9 (X[j]?.getD (0,0))=true/\o9 (Y[j]?.getD (0,0))=true)/\val v=r7 (fun j=>r8 X j*r8 Y j) k
 | 0,v,e=>by
   simp only[xU,Option.some.injEq]at e;subst e;refine⟨rfl,fun j hj=>absurd hj e7,?_⟩;unfold val r7;simp;grind
 | k+1,v,e=>by
   simp only[xU]at e;cases e0:xU X Y k with
   | none=>rw[e0]at e;cases e
   | some s =>
     rw[e0]at e;simp only[Option.bind_some]at e
     split at e
     ·next h2 =>
      simp only[Option.some.injEq]at e;obtain⟨h3,h4,h5⟩:=mY e0;obtain⟨m1,m2,m3,m4⟩:=rP h2.1;obtain⟨a1,a2,a3,a4⟩:=jT h2.2;rw[<-e];refine⟨a3,fun j hj=>?_,?_⟩
      ·by_cases E:j<k
       ·exact h4 j E
       ·obtain rfl:j=k:=by omega
        exact⟨m1,m2⟩
      ·rw[a4,m4,h5];rfl
     ·cases e
theorem dz{X:j4}{v:j8}(e:vg X Y=some v):X.length=Y.length/\o9 v=true/\(∀j,j<X.length->o9 (X[j]?.getD (0,0))=true/\o9 (Y[j]?.getD (0,0))=true)/\val v=r7 (fun j=>r8 X j*r8 Y j) X.length:=by
 unfold vg at e
 split at e
 ·next h=>exact⟨h,mY e⟩
 ·cases e
theorem mX(X Y:j4):∀k,xU X Y k=xU Y X k
 | 0=>rfl
 | k+1=>by simp only[xU,mX X Y k,tZ (X[k]?.getD (0,0))]
theorem ij(X Y:j4):vg X Y=vg Y X:=by
 unfold vg;by_cases h:X.length=Y.length
 ·rw[if_pos h,if_pos h.symm,h,mX]
 ·rw[if_neg h,if_neg (fun e=>h e.symm)]
theorem oQ(Y:j4)(k:Nat):(Y.map uU)[k]?.getD (0,0)=uU (Y[k]?.getD (0,0)):=by
 rw[List.getElem?_map];cases Y[k]?<;>rfl
theorem oL(X Y:j4):∀k,xU X (Y.map uU) k=(xU X Y k).map uU
 | 0=>rfl
 | k+1=>by
   simp only[xU,oL X Y k,oQ,Jt];cases xU X Y k with
   | none=>rfl
   | some s =>
     simp only[Option.map_some,Option.bind_some,KW]
     split<;>rfl
theorem KJ(X Y:j4):vg X (Y.map uU)=(vg X Y).map uU:=by
 unfold vg;rw[List.length_map]
 split
 ·exact oL X Y _
 ·rfl
theorem tn(l:j7):ar (l.map fun x=>-x)=(ar l).map uU:=by
 unfold ar;rw[List.map_map,List.map_map];rfl
def Gt(A:j5)(C:j4)(j:Nat):Prop :=
 (∃x:Int,C[j]?.getD (0,0)=(x,1)/\-1000000<=x/\x<=1000000)∨∃j',j'<C.length/\C[j']?.getD (0,0)=uU (C[j]?.getD (0,0))/\vJ A j'=(vJ A j).map fun x=>-x
theorem KV(h:am A Y C j=true):aX A Y C j=true:=by
 unfold am at h;unfold aX;cases e:vg Y (ar (vJ A j))with
 | none=>rw[e]at h;cases h
 | some v =>
   rw[e]at h;simp only[Bool.and_eq_true,decide_eq_true_eq]at h⊢;obtain⟨s1,s2,G,E⟩:=jU h.1;rw[mi s1 s2];have:=(fu G).1 h.2;rw[E]at this;grind
theorem rl{v:j8}(h1:-1000000<=x)(h2:x<=1000000)(hv:o9 v=true)(hc:o9 c=true)(e:val c=(x:Rat)-val v):vD (x,1) v=(c,true):=by
 have hb:=aL hv;have kb:=aL hc;have hx:o9 (x,1)=true:=(Fr.int x e7 e7).1;have hn:(x*v.2).natAbs<=1000000*1000000000:=by
  rw[Int.natAbs_mul];exact Nat.mul_le_mul e7 e7
 have key:(x*v.2-v.1*1)*c.2=c.1*(1*v.2):=by
  have a:=ej (show v.2≠0 by omega);have b:=ej (show c.2≠0 by omega);have:((x:Rat)*v.2-v.1)*c.2=c.1*v.2:=by unfold val at e;grind
  have h3:(x*v.2-v.1)*c.2=c.1*v.2:=by exact_mod_cast this
  grind
 unfold vD;rw[if_pos (by rw[hx,hv];rfl)];simp only;obtain⟨r,e1,e2⟩:=kL (n:=x*v.2-v.1*1) (d:=1*v.2) (x:=c.1) (D:=c.2) e7 e7 e7 e7 e7 e7 key;rw[e1];have:=Fr.eq e2 (Fr.self hc) rfl;rw[this]
theorem tw(hc:o9 c=true)(hn:∃x:Int,C[j]?.getD (0,0)=(x,1)/\-1000000<=x/\x<=1000000)(h:aX A Y C j=true)
 (e:∀v,vg Y (ar (vJ A j))=some v->val c=val (C[j]?.getD (0,0))-val v):am A Y C j=true:=by
 obtain⟨x,hx,h1,h2⟩:=hn;unfold aX at h;unfold am;cases e0:vg Y (ar (vJ A j))with
 | none=>rw[e0]at h;cases h
 | some v =>
   rw[e0]at h;have hcv:=e v e0;have hv:=(dz e0).2.1;simp only[hx,decide_eq_true_eq]at h hcv⊢;rw[ed]at hcv;rw[rl h1 h2 hv hc hcv];simp only[Bool.true_and,decide_eq_true_eq];rw[fu hc,hcv];have:=(mi (Fr.int x e7 e7).1 hv).1 h;rw[ed]at this;grind
theorem uO(h:o9 c=true):vD c c=((0,1),true):=by
 have hb:=aL h;unfold vD;rw[if_pos (by rw[h];rfl),Int.sub_self];have hp:0<c.2*c.2:=Int.mul_pos e7 e7;obtain⟨r,e1,e2⟩:=kL (n:=0) (d:=c.2*c.2) (x:=0) (D:=1) hp e7 (Ua ⟨by omega,hb.2.1⟩ ⟨by omega,hb.2.1⟩).2 e7 e7 e7 e7;rw[e1];have:=Fr.eq e2 (Fr.int 0 e7 e7) rfl;rw[this]
theorem rR{G:Nat}(hv:o9 (C[j]?.getD (0,0))=true)(e1:C[G]?.getD (0,0)=uU (C[j]?.getD (0,0)))(e2:vJ A G=(vJ A j).map fun x=>-x)
 (h:aX A Y C j=true) (h':aX A Y C G=true):am A Y C j=true:=by
 unfold aX at h h';unfold am;rw[e2,tn,KJ,e1]at h';cases e0:vg Y (ar (vJ A j))with
 | none=>rw[e0]at h;cases h
 | some v =>
   rw[e0]at h h';have Bu:=(dz e0).2.1;simp only[decide_eq_true_eq,Option.map_some]at h h';rw[mi hv Bu]at h;rw[mi (by rw[dh];exact hv) (by rw[dh];exact Bu),fg,fg]at h';have E:val (C[j]?.getD (0,0))=val v:=by grind
   have:=val_inj hv Bu E;simp only;rw[this,uO Bu];rfl
theorem eP(h:vG A B C=true):C.length<=70/\A.length<=8/\B.length=A.length/\(∀j,j<C.length->o9 (C[j]?.getD (0,0))=true) /\
 (∀i,i<A.length->(A[i]?.getD []).length=C.length/\∀x∈A[i]?.getD [],-5000<=x/\x<=5000)/\∀i,i<B.length->-5000<=B[i]?.getD 0/\B[i]?.getD 0<=5000:=by
 unfold vG xC at h;simp only[Bool.and_eq_true,decide_eq_true_eq,List.all_eq_true,r']at h;obtain⟨h1,h2,h3,h4,h5,h6⟩:=h;refine⟨h1,h2,h3,fun j hj=>?_,fun i hi=>?_,fun i hi=>?_⟩
 ·rw[List.getElem?_eq_getElem hj];exact h4 _ (List.getElem_mem _)
 ·rw[List.getElem?_eq_getElem hi];exact h5 _ (List.getElem_mem _)
 ·rw[List.getElem?_eq_getElem hi];exact h6 _ (List.getElem_mem _)
theorem eW(b:Int):(b<0/\yh b=-1)∨(¬b<0/\yh b=1):=by
 unfold yh;by_cases h:b<0
 ·exact .inl ⟨h,if_pos h⟩
 ·exact .inr ⟨h,if_neg h⟩
theorem fJ{i:Nat}(hl:(A[i]?.getD []).length=n)(hi:i<A.length):
 (cj A B i).length=n+A.length+1/\(∀j,j<n->(cj A B i)[j]?.getD (0,0)=(yh (B[i]?.getD 0)*(A[i]?.getD [])[j]?.getD 0,1))/\(∀k,k<A.length->(cj A B i)[n+k]?.getD (0,0)=if k=i then(1,1) else(0,1))/\(cj A B i)[n+A.length]?.getD (0,0)=(yh (B[i]?.getD 0)*B[i]?.getD 0,1):=by
 have e1:((A[i]?.getD []).map fun x=>(yh (B[i]?.getD 0)*x,(1:Int))).length=n:=by rw[List.length_map,hl]
 have e2:(mh A.length i).length=A.length:=by simp[mh]
 unfold cj;refine⟨by simp[hl,e2];omega,fun j hj=>?_,fun k hk=>?_,?_⟩
 ·rw[List.getElem?_append_left (by rw[List.length_append,e1];omega),List.getElem?_append_left e7,List.getElem?_map];rw[List.getElem?_eq_getElem (l:=A[i]?.getD []) (by rw[hl];exact hj)];rfl
 ·rw[List.getElem?_append_left (by rw[List.length_append,e1,e2];omega),List.getElem?_append_right e7,e1,Nat.add_sub_cancel_left];unfold mh;rw[List.getElem?_map,List.getElem?_range hk];rfl
 ·rw[List.getElem?_append_right (by rw[List.length_append,e1,e2];omega),List.length_append,e1,e2];simp
theorem qs(x:Int)(h:-1000000000<=x)(h':x<=1000000000):o9 (x,1)=true:=(Fr.int x h h').1
theorem fR(h:vG A B C=true):wo C.length A.length (fun k j=>r8 (cj A B k) j) (bD A B C.length):=by
 obtain⟨h1,h2,h3,h4,h5,h6⟩:=eP h;have o7:∀i,i<A.length->(bD A B C.length).row i=cj A B i:=by
  intro i hi;unfold bD Tb.row;simp only[List.getElem?_map,List.getElem?_range hi,Option.map_some,Option.getD_some]
 refine⟨rfl,by simp[bD],by simp[bD],fun b hb=>?_,fun i hi=>?_,fun i hi=>?_⟩
 ·simp only[bD,List.mem_map,List.mem_range]at hb;obtain⟨i,hi,rfl⟩:=hb;omega
 ·rw[o7 i hi];obtain⟨J,I,E,G⟩:=fJ (B:=B) (h5 i hi).1 hi;refine⟨J,fun j hj=>?_⟩;by_cases Vy:j<C.length
  ·rw[I j Vy];have hm:(A[i]?.getD [])[j]?.getD 0∈A[i]?.getD []:=by
    rw[List.getElem?_eq_getElem (l:=A[i]?.getD []) (by rw[(h5 i hi).1];exact Vy)];exact List.getElem_mem _
   have Fc:=(h5 i hi).2 _ hm;refine qs _ ?_ ?_<;>rcases eW (B[i]?.getD 0)with⟨_,e⟩|⟨_,e⟩<;>rw[e]<;>omega
  ·by_cases P6:j<C.length+A.length
   ·obtain⟨k,rfl⟩:∃k,j=C.length+k:=⟨j-C.length,by omega⟩;rw[E k e7];split<;>rfl
   ·obtain rfl:j=C.length+A.length:=by omega
    rw[G];have:=h6 i e7;refine qs _ ?_ ?_<;>rcases eW (B[i]?.getD 0)with⟨_,e⟩|⟨_,e⟩<;>rw[e]<;>omega
 ·rw[o7 i hi];obtain⟨J,I,E,G⟩:=fJ (B:=B) (h5 i hi).1 hi;intro j hj;rw[qn (i:=i) hi]
  ·unfold r8;rw[E i hi,if_pos rfl];have:val (1,1)=1:=by unfold val;grind
   rw[this];grind
  ·intro k hk Aq;unfold r8;rw[E k hk,if_neg Aq];have:val (0,1)=0:=by unfold val;grind
   rw[this];grind
theorem kY(f:Nat->Rat):∀m,r7 (fun k=>- f k) m=- r7 f m
 | 0=>by simp[r7]
 | m+1=>by simp only[r7,kY f m];grind
theorem pZ(b x:Int):val (yh b*x,1)=(yh b:Rat)*(x:Rat):=by rw[ed];exact_mod_cast rfl
theorem tI(B:j7)(cs:j4)(n i:Nat):val (dE B cs n i)=- ((yh (B[i]?.getD 0):Rat)*r8 cs (n+i)):=by
 unfold dE yz
 rcases eW (B[i]?.getD 0)with⟨h,e⟩|⟨h,e⟩
 ·rw[if_pos h,e,fg,fg];unfold r8;have:((-1:Int):Rat)=-1:=by exact_mod_cast rfl
  rw[this];grind
 ·rw[if_neg h,e,fg];unfold r8;have:((1:Int):Rat)=1:=by exact_mod_cast rfl
  rw[this];grind
theorem Mq(ok:vG A B C=true){r:yu}(h:xF A B C=some r)(hs:r.status=1):
 ∃cs,iU (C.length+A.length+1) cs/\r.Y.length=B.length/\r.value=uU (cs[C.length+A.length]?.getD (0,0))/\(∀j,j<C.length->r8 cs j=val (C[j]?.getD (0,0))-r7 (fun k=>r8 r.Y k*(((A[k]?.getD [])[j]?.getD 0:Int):Rat)) A.length) /\
   r8 cs (C.length+A.length)=- r7 (fun k=>r8 r.Y k*((B[k]?.getD 0:Int):Rat)) A.length:=by
 obtain⟨h1,h2,h3,h4,h5,h6⟩:=eP ok;unfold xF at h;rw[h3]at h;cases e1:aO (dI C.length A.length) 1000 (bD A B C.length)with
 | none=>rw[e1]at h;cases h
 | some p1 =>
   rw[e1]at h;simp only[Option.bind_some]at h
   split at h
   ·rw[Option.map_eq_some_iff]at h;obtain⟨Y,_,rfl⟩:=h;cases hs
   ·cases e2:aY C.length (p1.t,p1.left) A.length with
    | none=>rw[e2]at h;cases h
    | some s =>
      rw[e2]at h;simp only[Option.bind_some]at h;rw[Option.map_eq_some_iff]at h;obtain⟨p2,e3,h⟩:=h
      split at h
      ·subst h;cases hs
      ·have i1:=(du (fR ok) e1).1;have i2:=(eM (s:=(p1.t,p1.left)) i1 e2).1;obtain⟨i3,e4,_⟩:=du i2 e3;obtain⟨c1,c2⟩:=dW i3 e4;subst h;have I:∀j,(bY C A.length++[(0,1)])[j]?.getD (0,0)=if j<C.length then C[j]?.getD (0,0) else if j<C.length+A.length+1 then(0,1) else(0,0):=by
        intro j;unfold bY;by_cases E:j<C.length
        ·rw[if_pos E,List.append_assoc,List.getElem?_append_left E]
        ·rw[if_neg E,List.append_assoc,List.getElem?_append_right e7];have:List.replicate A.length ((0:Int),(1:Int))++[(0,1)]=List.replicate (A.length+1) (0,1):=by rw[List.replicate_succ']
         rw[this,List.getElem?_replicate];by_cases J:j<C.length+A.length+1
         ·rw[if_pos J,if_pos e7];rfl
         ·rw[if_neg J,if_neg e7];rfl
       have hz:∀k,k<A.length+1->r8 (bY C A.length++[(0,1)]) (C.length+k)=0:=by
        intro k hk;unfold r8;rw[I,if_neg e7,if_pos e7];unfold val;grind
       have hY:∀k,k<A.length->r8 ((List.range A.length).map (dE B p2.costs C.length)) k=- ((yh (B[k]?.getD 0):Rat)*r8 p2.costs (C.length+k)):=by
        intro k hk;unfold r8;rw[List.getElem?_map,List.getElem?_range hk,Option.map_some,Option.getD_some,tI];rfl
       refine⟨p2.costs,c1,by simp[h3],rfl,fun j E=>?_,?_⟩
       ·have hr:=c2 j e7;have G:r8 (bY C A.length++[(0,1)]) j=val (C[j]?.getD (0,0)):=by unfold r8;rw[I,if_pos E]
        have G7:r7 (fun k=>(r8 p2.costs (C.length+k)-r8 (bY C A.length++[(0,1)]) (C.length+k))*r8 (cj A B k) j) A.length=r7 (fun k=>- (r8 ((List.range A.length).map (dE B p2.costs C.length)) k*(((A[k]?.getD [])[j]?.getD 0:Int):Rat))) A.length :=
         br fun k hk=>by
          rw[hz k e7,hY k hk];have:r8 (cj A B k) j=(yh (B[k]?.getD 0):Rat)*(((A[k]?.getD [])[j]?.getD 0:Int):Rat):=by
           unfold r8;rw[(fJ (B:=B) (h5 k hk).1 hk).2.1 j E,pZ]
          rw[this];grind
        rw[G7,kY,G]at hr;simp only
        grind
       ·have hr:=c2 (C.length+A.length) e7;have G7:r7 (fun k=>(r8 p2.costs (C.length+k)-r8 (bY C A.length++[(0,1)]) (C.length+k))*r8 (cj A B k) (C.length+A.length)) A.length=r7 (fun k=>- (r8 ((List.range A.length).map (dE B p2.costs C.length)) k*((B[k]?.getD 0:Int):Rat))) A.length :=
         br fun k hk=>by
          rw[hz k e7,hY k hk];have:r8 (cj A B k) (C.length+A.length)=(yh (B[k]?.getD 0):Rat)*((B[k]?.getD 0:Int):Rat):=by
           unfold r8;rw[(fJ (B:=B) (h5 k hk).1 hk).2.2.2,pZ]
          rw[this];grind
        rw[G7,kY,hz A.length e7]at hr;simp only
        grind
theorem qZ(A:j5)(j k:Nat)(hk:k<A.length):(vJ A j)[k]?.getD 0=(A[k]?.getD [])[j]?.getD 0:=by
 unfold vJ;rw[List.getElem?_map,List.getElem?_eq_getElem hk];rfl
theorem KU(ok:vG A B C=true)(hn:∀j,j<C.length->Gt A C j){r:yu}(h:xF A B C=some r):aG am A B C r=aG aX A B C r:=by
 unfold aG
 split
 ·next hs =>
  obtain⟨cs,c1,c2,c3,c4,c5⟩:=Mq ok h hs;obtain⟨h1,h2,h3,h4,h5,h6⟩:=eP ok;have key:(List.range C.length).all (am A r.Y C)=(List.range C.length).all (aX A r.Y C):=by
   rw[Bool.eq_iff_iff,List.all_eq_true,List.all_eq_true];constructor
   ·intro ha j hj;exact KV (ha j hj)
   ·intro ha j hj;have hj':=List.mem_range.1 hj
    rcases hn j hj' with hi|⟨E,G,e1,e2⟩
    ·refine tw (c1.2 j e7) hi (ha j hj) fun v hv=>?_
     have:=c4 j hj';unfold r8 at this;rw[this];obtain⟨d1,d2,d3,d4⟩:=dz hv;rw[d4,c2,h3]
     congr 1
     refine br fun k hk=>?_
     unfold r8;rw[jH (by simp[vJ];omega),qZ A j k hk,ed]
    ·exact rR (h4 j hj') e1 e2 (ha j hj) (ha E (List.mem_range.2 G))
  rw[key]
 ·rfl
theorem IW(hn:vG A B C=true->∀j,j<C.length->Gt A C j):be am A B C=be aX A B C:=by
 unfold be
 split
 ·next ok =>
  cases e:xF A B C with
  | none=>rfl
  | some r=>simp only[KU ok (hn ok) e]
 ·rfl
end Go.Proofs.YtdadoignenffgaaGreatDoor
