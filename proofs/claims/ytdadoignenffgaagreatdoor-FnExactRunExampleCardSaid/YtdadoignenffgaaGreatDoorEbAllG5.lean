import Derived.Test.YtdadoignenffgaaGreatDoorEbAllG3
import Derived.Test.YtdadoignenffgaaGreatDoorEbAllG0
import Derived.Test.YtdadoignenffgaaGreatDoorEbAllG2
set_option linter.unusedVariables false
set_option linter.unusedSimpArgs false
namespace Go.Proofs.YtdadoignenffgaaGreatDoor
variable{a b c:j8}{d x D:Int}{n m j:Nat}{r cost Y C:j4}{T0:Nat->Nat->Rat}{A:j5}{B:j7}
def ze(r:j8):j8:=(-r.1,r.2)
structure Tb  where
 rows:List (j4)
 basis:j7
 r7:Int
def Tb.row(t:Tb)(i:Nat):j4:=t.rows[i]?.getD []
def Tb.at(t:Tb)(i j:Nat):j8:=(t.row i)[j]?.getD (0,0)
variable{t:Tb}
def Cl(t:Tb):Bool :=
 r9 t.r7 0 1000&&(decide (t.basis.length=t.rows.length)&&(t.basis.all (fun b=>r9 b 0 (t.r7+t.rows.length-1))&&t.rows.all (fun r=>decide ((r.length:Int)=t.r7+t.rows.length+1))))
def Gk(A:j4)(p:j8)(i:Nat):Option (Int×Int):=if(AW (A[i]?.getD (0,0)) p).2=true then some (AW (A[i]?.getD (0,0)) p).1 else none
def Dw(A:j4)(p:j8):Option (j4):=runT (Gk A p) A.length
def Ns(t:Tb)(row zp:Nat)(main:j4)(st:List (j4))(i:Nat):Option (List (j4)) :=
 if(i=row∨t.at i zp=(0,1)) then some st else(Bl (t.row i) (ze (t.at i zp)) main).map fun r=>st.set i r
def A8(t:Tb)(row zp:Nat)(main:j4):Nat->Option (List (j4))
 | 0=>some (t.rows.set row main)
 | k+1=>(A8 t row zp main k).bind fun st=>Ns t row zp main st k
def gJ(t:Tb)(row zp:Nat):Option Tb :=
 (Dw (t.row row) (t.at row zp)).bind fun main=>(A8 t row zp main t.rows.length).map fun rs=>⟨rs,t.basis.set row (zp:Int),t.r7⟩
def ep(t:Tb)(row zp:Int):Bool:=Cl t&&(r9 row 0 (t.rows.length-1)&&r9 zp 0 (t.r7+t.rows.length-1))
def bJ(t:Tb)(row zp:Int):Option Tb:=if ep t row zp=true then gJ t row.toNat zp.toNat else none
def dg(t:Tb)(cost:j4):Nat->Option (j4)
 | 0=>some (cost++[(0,1)])
 | k+1=>(dg t cost k).bind fun out=>Bl out (ze (cost[(t.basis[k]?.getD 0).toNat]?.getD (0,0))) (t.row k)
def oq(t:Tb)(cost:j4):Bool:=Cl t&&(decide ((cost.length:Int)=t.r7+t.rows.length)&&Bb cost)
def cJ(t:Tb)(cost:j4):Option (j4):=if oq t cost=true then dg t cost t.rows.length else none
def By(t:Tb):Nat->j4
 | 0=>List.replicate (t.r7.toNat+t.rows.length) (0,1)
 | k+1=>(By t k).set (t.basis[k]?.getD 0).toNat (t.at k (t.r7.toNat+t.rows.length))
def A7(t:Tb):j4:=if Cl t=true then By t t.rows.length else []
def fw(c:j8):Bool:=decide (zV c (0,1)<0)
def bz(costs:j4)(last:Int):Int:=if(costs.length:Int)<last then -1 else cl fw (costs.take last.toNat)
def dW(t:Tb)(zp:Nat)(st:Int×(Int×Int))(i:Nat):Int×(Int×Int) :=
 if zV (t.at i zp) (0,1)<=0 then st
 else if(AW (t.at i (t.r7.toNat+t.rows.length)) (t.at i zp)).2=false then st
 else if st.1<0∨zV (AW (t.at i (t.r7.toNat+t.rows.length)) (t.at i zp)).1 st.2<0∨(zV (AW (t.at i (t.r7.toNat+t.rows.length)) (t.at i zp)).1 st.2=0/\t.basis[i]?.getD 0<t.basis[st.1.toNat]?.getD 0)
  then((i:Int),(AW (t.at i (t.r7.toNat+t.rows.length)) (t.at i zp)).1) else st
def cg(t:Tb)(zp:Nat):Nat->Int×(Int×Int)
 | 0=>(-1,(0,0))
 | k+1=>dW t zp (cg t zp k) k
def cW(t:Tb)(zp:Int):Int:=if(Cl t&&r9 zp 0 (t.r7+t.rows.length-1))=true then(cg t zp.toNat t.rows.length).1 else -1
structure Ph  where
 t:Tb
 left:Nat
 costs:j4
 zp:Int
def aY(cost:j4):Nat->Tb->Option Ph
 | f,t=>match cJ t cost with
   | none=>none
   | some cs =>
     if bz cs t.r7<0 then some ⟨t,f,cs,-1⟩
     else if cW t (bz cs t.r7)<0 then some ⟨t,f,cs,bz cs t.r7⟩
     else match f with
      | 0=>none
      | f+1=>match bJ t (cW t (bz cs t.r7)) (bz cs t.r7)with
        | none=>none
        | some t'=>aY cost f t'
def CM(c:j8):Bool:=decide (c≠(0,1))
def ie(n:Nat)(s:Tb×Nat)(k:Nat):Option (Tb×Nat) :=
 if s.1.basis[k]?.getD 0<n then some s
 else if cl CM ((s.1.row k).take n)<0 then some s
 else match s.2 with
  | 0=>none
  | f+1=>(bJ s.1 k (cl CM ((s.1.row k).take n))).map fun t=>(t,f)
def bv(n:Nat)(s:Tb×Nat):Nat->Option (Tb×Nat)
 | 0=>some s
 | k+1=>(bv n s k).bind fun s'=>ie n s' k
def BF(b:Int):Int:=if b<0 then -1 else 1
def pu(m i:Nat):j4:=(List.range m).map fun k=>if k=i then(1,1) else(0,1)
def cL(A:j5)(B:j7)(i:Nat):j4 :=
 ((A[i]?.getD []).map fun x=>(BF (B[i]?.getD 0)*x,1))++pu A.length i++[(BF (B[i]?.getD 0)*B[i]?.getD 0,1)]
def bV(A:j5)(B:j7)(n:Nat):Tb:=⟨(List.range A.length).map (cL A B),(List.range A.length).map fun i=>((n+i:Nat):Int),n⟩
def Bp(A B:j4):Nat->Option (Int×Int)
 | 0=>some (0,1)
 | k+1=>(Bp A B k).bind fun s=>if(mulR (A[k]?.getD (0,0)) (B[k]?.getD (0,0))).2=true/\(Ab s (mulR (A[k]?.getD (0,0)) (B[k]?.getD (0,0))).1).2=true
     then some (Ab s (mulR (A[k]?.getD (0,0)) (B[k]?.getD (0,0))).1).1 else none
def zr(A B:j4):Option (Int×Int):=if A.length=B.length then Bp A B A.length else none
def zM(A:j5)(B:j7)(C:j4):Bool :=
 decide (C.length<=70)&&(decide (A.length<=8)&&(decide (B.length=A.length)&&(Bb C&&(A.all (fun r=>decide (r.length=C.length)&&r.all (r9 · (-5000) 5000))&&B.all (r9 · (-5000) 5000)))))
def zP(A:j5)(j:Nat):j7:=A.map fun r=>r[j]?.getD 0
def DN(x:j4):Bool:=x.all fun r=>o9 r&&decide (0<=r.1)
def dC(A:j5)(x:j4)(B:j7):Bool:=(List.range A.length).all fun i=>decide (zr (az (A[i]?.getD [])) x=some (B[i]?.getD 0,1))
def dZ(A:j5)(B:j7)(n:Nat)(x:j4):Bool:=decide (x.length=n)&&(DN x&&dC A x B)
structure BQ  where
 status:Int
 X:j4
 Y:j4
 CB:j4
 value:j8
 Kf:Int
deriving DecidableEq
def aV(s:Int):BQ:=⟨s,[],[],[],(0,0),0⟩
def ar(A:j5)(Y C:j4)(j:Nat):Bool :=
 match zr Y (az (zP A j))with
 | none=>false
 | some v=>(zI (C[j]?.getD (0,0)) v).2&&decide (0<=(zI (C[j]?.getD (0,0)) v).1.1)
def bp(A:j5)(Y C:j4)(j:Nat):Bool :=
 match zr Y (az (zP A j))with
 | none=>false
 | some v=>decide (0<=zV (C[j]?.getD (0,0)) v)
def iD(B:j7)(C:j4)(r:BQ):Bool :=
 match zr C r.X,zr r.Y (az B)with
 | some x,some y=>decide (x=y)&&decide (x=r.value)
 | _,_=>false
def lR(A:j5)(B:j7)(n:Nat)(Y:j4):Bool :=
 (List.range n).all (fun j=>match zr Y (az (zP A j))with|none=>false|some v=>decide (v.1<=0))&&(match zr Y (az B)with|none=>false|some v=>decide (0<v.1))
def QX(A:j5)(B:j7)(C:j4)(CB:j4):Bool :=
 decide (CB.length=C.length)&&(DN CB&&(dC A CB (List.replicate B.length 0)&&(match zr C CB with|none=>false|some v=>decide (v.1<0))))
def aK(bound:j5->j4->j4->Nat->Bool)(A:j5)(B:j7)(C:j4)(r:BQ):Bool :=
 if r.status=1 then dZ A B C.length r.X&&(decide (r.Y.length=B.length)&&((List.range C.length).all (bound A r.Y C)&&iD B C r))
 else if r.status=2 then decide (r.Y.length=B.length)&&lR A B C.length r.Y
 else if r.status=3 then dZ A B C.length r.X&&QX A B C r.CB
 else false
def BX(b:Int)(y:j8):j8:=if b<0 then ze y else y
def fH(B:j7)(base:j8)(cs:j4)(n i:Nat):Option (Int×Int) :=
 if(zI base (cs[n+i]?.getD (0,0))).2=true then some (BX (B[i]?.getD 0) (zI base (cs[n+i]?.getD (0,0))).1) else none
def dY(B:j7)(cs:j4)(n i:Nat):j8:=BX (B[i]?.getD 0) (ze (cs[n+i]?.getD (0,0)))
def AY(t:Tb)(n zp:Nat):Nat->j4
 | 0=>(List.range n).map fun j=>if j=zp then(1,1) else(0,1)
 | k+1=>if t.basis[k]?.getD 0<n then(AY t n zp k).set (t.basis[k]?.getD 0).toNat (ze (t.at k zp)) else AY t n zp k
def ee(n m:Nat):j4:=List.replicate n (0,1)++List.replicate m (1,1)
def cz(C:j4)(m:Nat):j4:=C++List.replicate m (0,1)
def Bd(A:j5)(B:j7)(C:j4):Option BQ :=
 (aY (ee C.length B.length) 1000 (bV A B C.length)).bind fun p1 =>
   if(p1.costs[C.length+B.length]?.getD (0,0)).1<0 then
    (runT (fH B (1,1) p1.costs C.length) B.length).map fun Y=>⟨2,[],Y,[],(0,0),1000-p1.left⟩
   else(bv C.length (p1.t,p1.left) B.length).bind fun s=>(aY (cz C B.length) s.2 s.1).map fun p2 =>
    if 0<=p2.zp then⟨3,(A7 p2.t).take C.length,[],AY p2.t C.length p2.zp.toNat B.length,(0,0),1000-p2.left⟩
    else⟨1,(A7 p2.t).take C.length,(List.range B.length).map (dY B p2.costs C.length),[],ze (p2.costs[C.length+B.length]?.getD (0,0)),1000-p2.left⟩
def bD(bound:j5->j4->j4->Nat->Bool)(A:j5)(B:j7)(C:j4):BQ :=
 if zM A B C=true then
  match Bd A B C with
  | none=>aV 4
  | some r=>if aK bound A B C r=true then r else aV 4
 else aV 0
def Fr(p:j8)(x D:Int):Prop:=o9 p=true/\0<D/\p.1*D=x*p.2
theorem jp{p:j8}(h:o9 p=true):gI p.1 p.2=1:=by
 simp only[o9,xf,sw]at h;exact h.2.2
theorem lX{p:j8}(h1:1<=p.2)(h2:p.2<=1000000000)(h3:-1000000000<=p.1)(h4:p.1<=1000000000)(h5:gI p.1 p.2=1):o9 p=true:=by
 simp only[o9,r9,xf,sw];omega
theorem iT(a b:Int):gI a b=1↔Nat.Coprime a.natAbs b.natAbs:=by unfold gI Int.gcd Nat.Coprime;omega
theorem sT{a b c:Int}(hb:0<b)(hd:0<d)(h1:gI a b=1)(h2:gI c d=1)(h:a*d=c*b):a=c/\b=d:=by
 rw[iT]at h1 h2;have hn:a.natAbs*d.natAbs=c.natAbs*b.natAbs:=by rw[<-aaO,<-aaO,h]
 have e1:b.natAbs∣d.natAbs:=abu h1.symm ⟨c.natAbs,by rw[hn,acw]⟩;have e2:d.natAbs∣b.natAbs:=abu h2.symm ⟨a.natAbs,by rw[<-hn,acw]⟩;have e3:b=d:=by have:=Nat.dvd_antisymm e1 e2;omega
 subst e3;exact⟨abf e7 h,rfl⟩
theorem Fr.eq{p q:j8}{y E:Int}(h:Fr p x D)(k:Fr q y E)(e:x*E=y*D):p=q:=by
 obtain⟨h1,h2,h3⟩:=h;obtain⟨k1,k2,k3⟩:=k;have hb:=(aQ h1).1;have kb:=(aQ k1).1;have key:(p.1*q.2)*(D*E)=(q.1*p.2)*(D*E):=by grind
 have hDE:D*E≠0:=aba e7 e7;have:=sT e7 e7 (jp h1) (jp k1) (abf hDE key);exact Prod.ext this.1 this.2
theorem Fr.int(c:Int)(h:-1000000000<=c)(h':c<=1000000000):Fr (c,1) c 1 :=
 ⟨lX e8 e8 h h' (by rw[iT];simp),by omega,rfl⟩
theorem Fr.self{p:j8}(h:o9 p=true):Fr p p.1 p.2:=⟨h,by have:=(aQ h).1;omega,rfl⟩
theorem mW(n d:Int)(hd:0<d):1<=gI n d/\n=gI n d*n.tdiv (gI n d)/\d=gI n d*d.tdiv (gI n d)/\0<d.tdiv (gI n d):=by
 have hg:=kX n (show d≠0 by omega);obtain⟨k,hk⟩:=pE n d;obtain⟨m,hm⟩:=lO n d;have h1:n.tdiv (gI n d)=k:=by
    conv=>lhs;arg 1;rw[hk]
    exact aaV _ e7
 have h2:d.tdiv (gI n d)=m:=by
    conv=>lhs;arg 1;rw[hm]
    exact aaV _ e7
 rw[h1,h2];refine⟨hg,hk,hm,?_⟩
 rcases adh 0 m with h|h
 ·exact h
 ·have:gI n d*m<=0:=Int.mul_nonpos_of_nonneg_of_nonpos e7 h;omega
theorem qV{n:Int}(hd:0<d)(hn:-1000000000000000000<=n/\n<=1000000000000000000)(hd':d<=1000000000000000000):aI n d=Bf (n.tdiv (gI n d),d.tdiv (gI n d)):=by
 unfold aI;rw[hD (by simp[r9];omega),hD e7]
theorem wL{n:Int}(hd:0<d)(J:0<D)(hn:-1000000000000000000<=n/\n<=1000000000000000000)(G:d<=1000000000000000000)(hx:-1000000000000000000<=x/\x<=1000000000000000000)(I:D<=1000000000000000000)(e:n*D=x*d):aI n d=aI x D:=by
 rw[qV hd hn G,qV J hx I];obtain⟨g1,g2,g3,g4⟩:=mW n d hd;obtain⟨k1,k2,O,K⟩:=mW x D J;have key:(n.tdiv (gI n d)*D.tdiv (gI x D))*(gI n d*gI x D)=(x.tdiv (gI x D)*d.tdiv (gI n d))*(gI n d*gI x D):=by
  have a1:(n.tdiv (gI n d)*D.tdiv (gI x D))*(gI n d*gI x D)=(gI n d*n.tdiv (gI n d))*(gI x D*D.tdiv (gI x D)):=by grind
  have a2:(x.tdiv (gI x D)*d.tdiv (gI n d))*(gI n d*gI x D)=(gI x D*x.tdiv (gI x D))*(gI n d*d.tdiv (gI n d)):=by grind
  rw[a1,a2,<-g2,<-g3,<-k2,<-O,e]
 have hne:gI n d*gI x D≠0:=aba e7 e7;have:=sT g4 K (kW n d hd) (kW x D J) (abf hne key);rw[this.1,this.2]
theorem kt{n:Int}(hd:0<d)(h:(aI n d).2=true):Fr (aI n d).1 n d:=by
 refine⟨jB h,hd,?_⟩;unfold aI at h⊢
 split at h
 ·simp at h
 ·next h0 =>
  rw[hD h0]
  split at h
  ·omega
  ·next h1 =>
   rw[hD h1];unfold Bf at h⊢
   split at h
   ·next h2 =>
    rw[hI h2];obtain⟨g1,g2,g3,g4⟩:=mW n d hd;simp only;generalize n.tdiv (gI n d)=k at *;generalize d.tdiv (gI n d)=m at *;generalize gI n d=g at *;subst g2;grind
   ·simp at h
theorem nu{n:Int}(hd:0<d)(hn:-1000000000000000000<=n/\n<=1000000000000000000)(G:d<=1000000000000000000)(J:0<D)(I:D<=1000000000)(hx:-1000000000<=x/\x<=1000000000)(e:n*D=x*d):
 ∃r,aI n d=(r,true)/\Fr r x D:=by
 have h1:=wL hd J hn G e7 e7 e;have h2:=Nk (n:=x) (d:=D) e7 I hx.1 hx.2;exact⟨(aI x D).1,by rw[h1,<-h2],kt J h2⟩
theorem ZC{p q:Int}(h:-1000000000<=p/\p<=1000000000)(k:-1000000000<=q/\q<=1000000000):-1000000000000000000<=p*q/\p*q<=1000000000000000000:=NC h.1 h.2 k.1 k.2
theorem Fr.add{p q:j8}{y E z F:Int}(h:Fr p x D)(k:Fr q y E)(hF:0<F)(hF':F<=1000000000)(hz:-1000000000<=z/\z<=1000000000)(hs:-1000000000000000000<=p.1*q.2+q.1*p.2/\p.1*q.2+q.1*p.2<=1000000000000000000)(e:(x*E+y*D)*F=z*(D*E)):∃r,Ab p q=(r,true)/\Fr r z F:=by
 obtain⟨h1,h2,h3⟩:=h;obtain⟨k1,k2,I⟩:=k;have hb:=aQ h1;have G:=aQ k1;have hp:0<p.2*q.2:=Int.mul_pos e7 e7;have hDE:D*E≠0:=aba e7 e7;unfold Ab;rw[hI (by rw[h1,k1];rfl)];refine nu hp hs (ZC ⟨by omega,hb.2.1⟩ ⟨by omega,G.2.1⟩).2 hF hF' hz ?_;refine abf hDE ?_;have:(p.1*q.2+q.1*p.2)*F*(D*E)=((p.1*D)*(q.2*E)+(q.1*E)*(p.2*D))*F:=by grind
 rw[this,h3,I];have:(x*p.2*(q.2*E)+y*q.2*(p.2*D))*F=((x*E+y*D)*F)*(p.2*q.2):=by grind
 rw[this,e];grind
theorem Fr.size{p:j8}(h:Fr p x D):p.2<=D/\p.1.natAbs<=x.natAbs:=by
 obtain⟨h1,h2,h3⟩:=h;have hb:=aQ h1;have hc:=jp h1;rw[iT]at hc;have hn:p.1.natAbs*D.natAbs=x.natAbs*p.2.natAbs:=by rw[<-aaO,<-aaO,h3]
 have e1:p.2.natAbs∣D.natAbs:=abu hc.symm ⟨x.natAbs,by rw[hn,acw]⟩;have e2:=Nat.le_of_dvd e7 e1;refine⟨by omega,?_⟩;have e3:p.1.natAbs*p.2.natAbs<=x.natAbs*p.2.natAbs:=by rw[<-hn];exact Nat.mul_le_mul_left _ e2
 exact Nat.le_of_mul_le_mul_right e3 e7
def val(r:j8):Rat:=(r.1:Rat)/(r.2:Rat)
theorem eM(h:d≠0):(d:Rat)≠0:=by exact_mod_cast h
theorem ML{r:j8}{n:Int}(h:Fr r n d):val r=(n:Rat)/(d:Rat):=by
 obtain⟨h1,h2,h3⟩:=h;have hb:=(aQ h1).1;have e:(r.1:Rat)*(d:Rat)=(n:Rat)*(r.2:Rat):=by exact_mod_cast h3
 have a:=eM (show d≠0 by omega);have b:=eM (show r.2≠0 by omega);unfold val
 grind
theorem val_inj{p q:j8}(hp:o9 p=true)(hq:o9 q=true)(h:val p=val q):p=q:=by
 have hb:=(aQ hp).1;have kb:=(aQ hq).1;have a:=eM (show p.2≠0 by omega);have b:=eM (show q.2≠0 by omega);have e:(p.1:Rat)*(q.2:Rat)=(q.1:Rat)*(p.2:Rat):=by unfold val at h;grind
 have e':p.1*q.2=q.1*p.2:=by exact_mod_cast e
 have:=sT e7 e7 (jp hp) (jp hq) e';exact Prod.ext this.1 this.2
theorem pw{p q:j8}(hp:o9 p=true)(hq:o9 q=true):0<=zV p q↔val q<=val p:=by
 have hb:=(aQ hp).1;have kb:=(aQ hq).1;have a:(0:Rat)<(p.2:Rat):=by exact_mod_cast (show 0<p.2 by omega)
 have b:(0:Rat)<(q.2:Rat):=by exact_mod_cast (show 0<q.2 by omega)
 have e:0<=zV p q↔q.1*p.2<=p.1*q.2:=by
  unfold zV;rw[hI (by rw[hp,hq];rfl)]
  split
  ·omega
  ·split<;>omega
 rw[e];have e2:q.1*p.2<=p.1*q.2↔(q.1:Rat)*p.2<=(p.1:Rat)*q.2:=by
  constructor
  ·intro h;exact_mod_cast h
  ·intro h;exact_mod_cast h
 rw[e2];have x1:(p.1:Rat)=val p*p.2:=by unfold val;grind
 have x2:(q.1:Rat)=val q*q.2:=by unfold val;grind
 have OT:(0:Rat)<(p.2:Rat)*q.2:=Rat.mul_pos a b;have G:(q.1:Rat)*p.2=val q*((p.2:Rat)*q.2):=by rw[x2];grind
 have x4:(p.1:Rat)*q.2=val p*((p.2:Rat)*q.2):=by rw[x1];grind
 rw[G,x4];exact⟨fun h=>Rat.le_of_mul_le_mul_right h OT,fun h=>Rat.mul_le_mul_of_nonneg_right h (by grind)⟩
theorem gQ{p:j8}(hp:o9 p=true):0<=p.1↔0<=val p:=by
 have hb:=(aQ hp).1;have a:(0:Rat)<(p.2:Rat):=by exact_mod_cast (show 0<p.2 by omega)
 have x1:(p.1:Rat)=val p*p.2:=by unfold val;grind
 have e:0<=p.1↔(0:Rat)*p.2<=val p*p.2:=by
  rw[<-x1];constructor
  ·intro h;have:(0:Rat)<=(p.1:Rat):=by exact_mod_cast h
   grind
  ·intro h;have:(0:Rat)<=(p.1:Rat):=by grind
   exact_mod_cast this
 rw[e];exact⟨fun h=>Rat.le_of_mul_le_mul_right h a,fun h=>Rat.mul_le_mul_of_nonneg_right h (by grind)⟩
theorem eG(x:Int):val (x,1)=(x:Rat):=by unfold val;grind
theorem gl(r:j8):val (ze r)=- val r:=by
 unfold val ze;have:((-r.1:Int):Rat)=- (r.1:Rat):=by exact_mod_cast rfl
 simp only[this];grind
theorem dI(r:j8):o9 (ze r)=o9 r:=jq r.1 r.2
theorem pM(n b:Int):r9 (-n) (-b) b=r9 n (-b) b:=by
 unfold r9;rw[U9];simp;omega
theorem toQ(n d:Int):aI (-n) (-d)=aI n d:=by
 unfold aI;have h1:=pM n 1000000000000000000;have h2:=pM d 1000000000000000000;rw[iK,lP,h1,h2];by_cases hd:d=0
 ·subst hd;simp
 ·have:-d≠0:=by omega
  simp only[hd,this,false_or]
  split
  ·rfl
  ·by_cases hn:d<0
   ·rw[hD e7,hI hn];simp[aa6,aaW]
   ·rw[hI e7,hD hn];simp[aa6,aaW]
theorem qW(n d:Int):aI (-n) d=(ze (aI n d).1,(aI n d).2):=by
 unfold aI;have h1:=pM n 1000000000000000000;rw[iK,h1];have hc:∀a b:Int,Bf (-a,b)=(ze (Bf (a,b)).1,(Bf (a,b)).2):=by
  intro a b;unfold Bf;rw[jq]
  split<;>rfl
 split
 ·rfl
 ·split
  ·rw[aa6,hc]
  ·rw[aa6,hc]
theorem lH{n:Int}(h:(aI n d).2=true):d≠0/\o9 (aI n d).1=true/\val (aI n d).1=(n:Rat)/(d:Rat):=by
 have hd:d≠0:=by
  intro h0;subst h0;simp[aI]at h
 refine⟨hd,jB h,?_⟩
 rcases Int.lt_or_gt_of_ne hd with hlt|CQ
 ·have e:=toQ n d;rw[<-e]at h⊢;have:=ML (kt e7 h);rw[this];have a:=eM hd;have e1:((-n:Int):Rat)=- (n:Rat):=by exact_mod_cast rfl
  have e2:((-d:Int):Rat)=- (d:Rat):=by exact_mod_cast rfl
  rw[e1,e2];grind
 ·exact ML (kt CQ h)
theorem both{a b:Bool}(h:(a&&b)=true):a=true/\b=true:=by simpa using h
theorem lY(h:(Ab a b).2=true):o9 a=true/\o9 b=true/\o9 (Ab a b).1=true/\val (Ab a b).1=val a+val b:=by
 unfold Ab at h⊢
 split at h
 ·next h1 =>
  rw[hI h1];obtain⟨ha,hb⟩:=both h1;obtain⟨h2,h3,h4⟩:=lH h;refine⟨ha,hb,h3,?_⟩;rw[h4];have e1:=eM (show a.2≠0 by have:=(aQ ha).1;omega);have e2:=eM (show b.2≠0 by have:=(aQ hb).1;omega);unfold val;simp only[Rat.intCast_add,aah]
  grind
 ·simp at h
theorem lZ(h:(zI a b).2=true):o9 a=true/\o9 b=true/\o9 (zI a b).1=true/\val (zI a b).1=val a-val b:=by
 rw[<-tY]at h⊢;obtain⟨h1,h2,h3,h4⟩:=lY h;rw[jq]at h2;refine⟨h1,h2,h3,?_⟩;rw[h4];have:=gl b;unfold ze at this;rw[this];grind
theorem vJ(h:(mulR a b).2=true):o9 a=true/\o9 b=true/\o9 (mulR a b).1=true/\val (mulR a b).1=val a*val b:=by
 unfold mulR at h⊢
 split at h
 ·next h1 =>
  rw[hI h1];obtain⟨ha,hb⟩:=both h1;obtain⟨h2,h3,h4⟩:=lH h;refine⟨ha,hb,h3,?_⟩;rw[h4];have e1:=eM (show a.2≠0 by have:=(aQ ha).1;omega);have e2:=eM (show b.2≠0 by have:=(aQ hb).1;omega);unfold val;simp only[aah]
  grind
 ·simp at h
theorem QN(h:(AW a b).2=true):o9 a=true/\o9 b=true/\o9 (AW a b).1=true/\val b≠0/\val (AW a b).1=val a/val b:=by
 unfold AW at h⊢
 split at h
 ·next h1 =>
  rw[hI h1];obtain⟨ha,hb⟩:=both h1;obtain⟨h2,h3,h4⟩:=lH h;have e1:=eM (show a.2≠0 by have:=(aQ ha).1;omega);have e2:=eM (show b.2≠0 by have:=(aQ hb).1;omega);have e3:=eM (show b.1≠0 by intro h0;rw[h0]at h2;simp at h2);refine⟨ha,hb,h3,?_,?_⟩
  ·unfold val;grind
  ·rw[h4];unfold val;simp only[aah]
   grind
 ·simp at h
theorem xV(a b:j8):mulR a b=mulR b a:=by
 unfold mulR;rw[ad3,acx a.1,acx a.2]
theorem ND(a b:j8):mulR a (ze b)=(ze (mulR a b).1,(mulR a b).2):=by
 unfold mulR;rw[dI]
 split
 ·have:a.1*(ze b).1=-(a.1*b.1):=by unfold ze;simp only;grind
  rw[this,qW];rfl
 ·rfl
theorem Px(a b:j8):Ab (ze a) (ze b)=(ze (Ab a b).1,(Ab a b).2):=by
 unfold Ab;rw[dI,dI]
 split
 ·have:(ze a).1*(ze b).2+(ze b).1*(ze a).2=-(a.1*b.2+b.1*a.2):=by unfold ze;simp only;grind
  rw[this,qW];rfl
 ·rfl
def r8(f:Nat->Rat):Nat->Rat
 | 0=>0
 | k+1=>r8 f k+f k
theorem jk(f g:Nat->Rat)(c:Rat):∀m,r8 (fun k=>f k+c*g k) m=r8 f m+c*r8 g m
 | 0=>by simp[r8];grind
 | m+1=>by simp only[r8,jk f g c m];grind
theorem bK{f g:Nat->Rat}:∀{m},(∀k,k<m->f k=g k)->r8 f m=r8 g m
 | 0,_=>rfl
 | m+1,h=>by simp only[r8,bK (m:=m) (fun k hk=>h k e7),h m e7]
theorem eR{f:Nat->Rat}:∀{m},(∀k,k<m->f k=0)->r8 f m=0
 | 0,_=>rfl
 | m+1,h=>by simp only[r8,eR (m:=m) (fun k hk=>h k e7),h m e7];grind
theorem uc{f:Nat->Rat}{i:Nat}:∀{m},i<m->(∀k,k<m->k≠i->f k=0)->r8 f m=f i
 | 0,hi,_=>absurd hi e7
 | m+1,hi,h=>by
   by_cases him:i=m
   ·subst him;simp only[r8];rw[eR (fun k hk=>h k e7 e7)];grind
   ·simp only[r8];rw[uc (m:=m) e7 (fun k hk CX=>h k e7 CX),h m e7 e7];grind
def Rel(n m:Nat)(T0:Nat->Nat->Rat)(c f:Nat->Rat):Prop:=∀j,j<n+m+1->f j-c j=r8 (fun k=>(f (n+k)-c (n+k))*T0 k j) m
theorem Rel.add{c f g h:Nat->Rat}{k:Rat}(hf:Rel n m T0 c f)(hg:Rel n m T0 (fun _=>0) g)(hh:∀j,j<n+m+1->h j=f j+k*g j):Rel n m T0 c h:=by
 intro j hj;have h1:=hf j hj;have h2:=hg j hj;rw[hh j hj];have e:r8 (fun i=>(h (n+i)-c (n+i))*T0 i j) m=r8 (fun i=>(f (n+i)-c (n+i))*T0 i j+k*((g (n+i)-0)*T0 i j)) m :=
  bK fun i hi=>by rw[hh (n+i) e7];grind
 rw[e,jk,<-h1,<-h2];grind
theorem Rel.scale{g h:Nat->Rat}{k:Rat}(hg:Rel n m T0 (fun _=>0) g)(hh:∀j,j<n+m+1->h j=k*g j):Rel n m T0 (fun _=>0) h:=by
 have h0:Rel n m T0 (fun _=>0) (fun _=>0):=by
  intro j hj;rw[eR (fun k hk=>by grind)];grind
 exact Rel.add h0 hg (k:=k) (fun j hj=>by rw[hh j hj];grind)
def yY(r:j4)(j:Nat):Rat:=val (r[j]?.getD (0,0))
def kq(N:Nat)(r:j4):Prop:=r.length=N/\∀j,j<N->o9 (r[j]?.getD (0,0))=true
theorem rm{A B:j4}{k:j8}(h:Bl A k B=some r):A.length=B.length/\r.length=A.length/\∀j,j<A.length->o9 (r[j]?.getD (0,0))=true/\yY r j=yY A j+val k*yY B j:=by
 unfold Bl at h
 split at h
 ·next hl =>
  refine⟨hl,dO h,fun j hj=>?_⟩;have hs:=lS h j hj;unfold Fo at hs
  split at hs
  ·next h2 =>
   simp only[bA]at hs;obtain⟨e1,e2⟩:=h2;obtain⟨_,_,_,m4⟩:=vJ e1;obtain⟨_,_,a3,a4⟩:=lY e2;rw[<-hs];refine⟨a3,?_⟩;unfold yY;rw[<-hs,a4,m4]
  ·cases hs
 ·cases h
theorem xz{A:j4}{p:j8}(h:Dw A p=some r):r.length=A.length/\∀j,j<A.length->o9 (r[j]?.getD (0,0))=true/\val p≠0/\yY r j=yY A j/val p:=by
 refine⟨dO h,fun j hj=>?_⟩;have hs:=lS h j hj;unfold Gk at hs
 split at hs
 ·next h2 =>
  simp only[bA]at hs;obtain⟨_,_,d3,d4,d5⟩:=QN h2;rw[<-hs];refine⟨d3,d4,?_⟩;unfold yY;rw[<-hs,d5]
 ·cases hs
structure Ak(n m:Nat)(T0:Nat->Nat->Rat)(t:Tb):Prop where
 r7:t.r7=n
 len:t.rows.length=m
 De:t.basis.length=m
 R7:∀b∈t.basis,0<=b/\b<n+m
 row:∀i,i<m->kq (n+m+1) (t.row i)
 rel:∀i,i<m->Rel n m T0 (fun _=>0) (yY (t.row i))
theorem Ak.ok(h:Ak n m T0 t)(hn:n<=1000):Cl t=true:=by
 unfold Cl;have hc:=h.r7;have hl:=h.len;simp only[xf,r9,sw,Di];refine⟨by omega,by rw[h.De,hl],fun b hb=>?_,fun r hr=>?_⟩
 ·have:=h.R7 b hb;omega
 ·obtain⟨i,hi,rfl⟩:=List.mem_iff_getElem.1 hr;have:=(h.row i e7).1;unfold Tb.row at this;rw[bk hi,l']at this;omega
theorem vv{rs:List (j4)}{i k:Nat}(hi:i<rs.length):(rs.set i r)[k]?.getD []=if k=i then r else rs[k]?.getD []:=by
 by_cases h:k=i
 ·subst h;rw[hI rfl];simp[hi]
 ·rw[hD h,DZ (fun e=>h e.symm)]
theorem qT{n m:Nat}{T0:Nat->Nat->Rat}{t:Tb}(h:Ak n m T0 t){row zp:Nat}(hr:row<m){main:j4}(J:kq (n+m+1) main)(K0:Rel n m T0 (fun _=>0) (yY main)):
 ∀{k:Nat} {st:List (j4)},k<=m->A8 t row zp main k=some st->st.length=m/\∀i,i<m->kq (n+m+1) (st[i]?.getD [])/\Rel n m T0 (fun _=>0) (yY (st[i]?.getD []))
 | 0,st,hk,e=>by
   simp only[A8,bA]at e;subst e;refine⟨by rw[H4,h.len],fun i hi=>?_⟩;rw[vv (by rw[h.len];exact hr)]
   split
   ·exact⟨J,K0⟩
   ·exact⟨h.row i hi,h.rel i hi⟩
 | k+1,st,hk,e=>by
   simp only[A8]at e;cases e0:A8 t row zp main k with
   | none=>rw[e0]at e;cases e
   | some s0 =>
     rw[e0]at e;simp only[G3]at e;obtain⟨hl,hs⟩:=qT h hr J K0 e7 e0;unfold Ns at e
     split at e
     ·simp only[bA]at e;subst e;exact⟨hl,hs⟩
     ·cases e1:Bl (t.row k) (ze (t.at k zp)) main with
      | none=>rw[e1]at e;cases e
      | some r =>
        rw[e1]at e;simp only[Tc,bA]at e;subst e;obtain⟨s1,s2,I⟩:=rm e1;have G:=(h.row k e7).1;refine⟨by rw[H4,hl],fun i hi=>?_⟩;rw[vv (by rw[hl];omega)]
        split
        ·refine⟨⟨by rw[s2,G],fun j hj=>(I j (by rw[G];exact hj)).1⟩,?_⟩;exact Rel.add (h.rel k e7) K0 (k:=val (ze (t.at k zp))) (fun j hj=>(I j (by rw[G];exact hj)).2)
        ·exact hs i hi
theorem fK{I:Tb}(h:Ak n m T0 t){row zp:Int}(e:bJ t row zp=some I):Ak n m T0 I:=by
 unfold bJ at e
 split at e
 ·next ha =>
  unfold ep at ha;simp only[xf,r9,sw]at ha;have hc:=h.r7;have hl:=h.len;have o8:row.toNat<m:=by omega
  have Es:zp.toNat<n+m:=by omega
  unfold gJ at e;cases e0:Dw (t.row row.toNat) (t.at row.toNat zp.toNat)with
  | none=>rw[e0]at e;cases e
  | some main =>
    rw[e0]at e;simp only[G3]at e;cases e1:A8 t row.toNat zp.toNat main t.rows.length with
    | none=>rw[e1]at e;cases e
    | some rs =>
      rw[e1]at e;simp only[Tc,bA]at e;subst e;obtain⟨d1,d2⟩:=xz e0;have G:=(h.row _ o8).1;have J:kq (n+m+1) main:=⟨by rw[d1,G],fun j hj=>(d2 j (by rw[G];exact hj)).1⟩
      have K0:Rel n m T0 (fun _=>0) (yY main):=Rel.scale (h.rel _ o8) (k:=1/val (t.at row.toNat zp.toNat)) (fun j hj=>by
       have:=(d2 j (by rw[G];exact hj)).2
       rw[this.2];have:=this.1;grind)
      obtain⟨p1,p2⟩:=qT h o8 J K0 e7 e1
      exact⟨hc,p1,by simp[h.De],fun b hb=>by
       rcases List.mem_or_eq_of_mem_set hb with h1|h1
       ·exact h.R7 b h1
       ·omega,fun i hi=>(p2 i hi).1,fun i hi=>(p2 i hi).2⟩
 ·cases e
theorem om{n m:Nat}{T0:Nat->Nat->Rat}{t:Tb}(h:Ak n m T0 t){cost:j4}(hl:cost.length=n+m)(hv:∀j,j<n+m->o9 (cost[j]?.getD (0,0))=true):
 ∀{k:Nat} {cs:j4},k<=m->dg t cost k=some cs->kq (n+m+1) cs/\Rel n m T0 (yY (cost++[(0,1)])) (yY cs)
 | 0,cs,hk,e=>by
   simp only[dg,bA]at e;subst e;refine⟨⟨by simp[hl],fun j hj=>?_⟩,?_⟩
   ·by_cases I:j<n+m
    ·rw[Ep e7];exact hv j I
    ·obtain rfl:j=n+m:=by omega
     rw[<-hl,Y',l'];rfl
   ·intro j hj;rw[eR (fun k hk=>by grind)];grind
 | k+1,cs,hk,e=>by
   simp only[dg]at e;cases e0:dg t cost k with
   | none=>rw[e0]at e;cases e
   | some c0 =>
     rw[e0]at e;simp only[G3]at e;obtain⟨⟨h1,h2⟩,h3⟩:=om h hl hv e7 e0;obtain⟨s1,s2,G⟩:=rm e;exact⟨⟨by rw[s2,h1],fun j hj=>(G j (by rw[h1];exact hj)).1⟩,Rel.add h3 (h.rel k e7) (fun j hj=>(G j (by rw[h1];exact hj)).2)⟩
theorem eu(h:Ak n m T0 t){cs:j4}(e:cJ t cost=some cs):kq (n+m+1) cs/\Rel n m T0 (yY (cost++[(0,1)])) (yY cs):=by
 unfold cJ at e
 split at e
 ·next ho =>
  unfold oq Bb at ho;simp only[xf,sw,Di]at ho;have hc:=h.r7;have hl:=h.len;have hlen:cost.length=n+m:=by omega
  rw[hl]at e;exact om h hlen (fun j hj=>by rw[bk e7];exact ho.2.2 _ (vl _)) (ao _) e
 ·cases e
theorem dR:∀{f:Nat} {t:Tb} {p:Ph},Ak n m T0 t->aY cost f t=some p->Ak n m T0 p.t/\cJ p.t cost=some p.costs/\p.left<=f:=by
 intro f
 induction f with
 | zero =>
   intro t p h e;unfold aY at e;cases e0:cJ t cost with
   | none=>rw[e0]at e;cases e
   | some cs =>
     rw[e0]at e;simp only at e
     split at e
     ·simp only[bA]at e;subst e;exact⟨h,e0,ao _⟩
     ·split at e
      ·simp only[bA]at e;subst e;exact⟨h,e0,ao _⟩
      ·cases e
 | succ f ih =>
   intro t p h e;unfold aY at e;cases e0:cJ t cost with
   | none=>rw[e0]at e;cases e
   | some cs =>
     rw[e0]at e;simp only at e
     split at e
     ·simp only[bA]at e;subst e;exact⟨h,e0,ao _⟩
     ·split at e
      ·simp only[bA]at e;subst e;exact⟨h,e0,ao _⟩
      ·cases e1:bJ t (cW t (bz cs t.r7)) (bz cs t.r7)with
       | none=>rw[e1]at e;cases e
       | some t' =>
         rw[e1]at e;obtain⟨a,b,c⟩:=ih (fK h e1) e;exact⟨a,b,by omega⟩
theorem fG{n m:Nat}{T0:Nat->Nat->Rat}{I:Nat}{s:Tb×Nat}(h:Ak n m T0 s.1):∀{k:Nat} {G:Tb×Nat},bv I s k=some G->Ak n m T0 G.1/\G.2<=s.2
 | 0,G,e=>by simp only[bv,bA]at e;subst e;exact⟨h,ao _⟩
 | k+1,G,e=>by
   simp only[bv]at e;cases e0:bv I s k with
   | none=>rw[e0]at e;cases e
   | some s1 =>
     rw[e0]at e;simp only[G3]at e;obtain⟨h1,h2⟩:=fG h e0;unfold ie at e
     split at e
     ·simp only[bA]at e;subst e;exact⟨h1,h2⟩
     ·split at e
      ·simp only[bA]at e;subst e;exact⟨h1,h2⟩
      ·split at e
       ·cases e
       ·next f hf =>
        rw[U']at e;obtain⟨t',e1,rfl⟩:=e;exact⟨fK h1 e1,by show f<=s.2;omega⟩
theorem qn{X Y:j4}:∀{k:Nat} {v:j8},Bp X Y k=some v->o9 v=true/\(∀j,j<k->o9 (X[j]?.getD (0,0))=true/\o9 (Y[j]?.getD (0,0))=true)/\val v=r8 (fun j=>yY X j*yY Y j) k
 | 0,v,e=>by
   simp only[Bp,bA]at e;subst e;refine⟨rfl,fun j hj=>absurd hj e7,?_⟩;unfold val r8;simp;grind
 | k+1,v,e=>by
   simp only[Bp]at e;cases e0:Bp X Y k with
   | none=>rw[e0]at e;cases e
   | some s =>
     rw[e0]at e;simp only[G3]at e
     split at e
     ·next h2 =>
      simp only[bA]at e;obtain⟨h3,h4,h5⟩:=qn e0;obtain⟨m1,m2,m3,m4⟩:=vJ h2.1;obtain⟨a1,a2,a3,a4⟩:=lY h2.2;rw[<-e];refine⟨a3,fun j hj=>?_,?_⟩
      ·by_cases G:j<k
       ·exact h4 j G
       ·obtain rfl:j=k:=by omega
        exact⟨m1,m2⟩
      ·rw[a4,m4,h5];rfl
     ·cases e
theorem dT{X:j4}{v:j8}(e:zr X Y=some v):X.length=Y.length/\o9 v=true/\(∀j,j<X.length->o9 (X[j]?.getD (0,0))=true/\o9 (Y[j]?.getD (0,0))=true)/\val v=r8 (fun j=>yY X j*yY Y j) X.length:=by
 unfold zr at e
 split at e
 ·next h=>exact⟨h,qn e⟩
 ·cases e
theorem qm(X Y:j4):∀k,Bp X Y k=Bp Y X k
 | 0=>rfl
 | k+1=>by simp only[Bp,qm X Y k,xV (X[k]?.getD (0,0))]
theorem jv(X Y:j4):zr X Y=zr Y X:=by
 unfold zr;by_cases h:X.length=Y.length
 ·rw[hI h,hI h.symm,h,qm]
 ·rw[hD h,hD (fun e=>h e.symm)]
theorem rZ(Y:j4)(k:Nat):(Y.map ze)[k]?.getD (0,0)=ze (Y[k]?.getD (0,0)):=by
 rw[MD];cases Y[k]?<;>rfl
theorem rS(X Y:j4):∀k,Bp X (Y.map ze) k=(Bp X Y k).map ze
 | 0=>rfl
 | k+1=>by
   simp only[Bp,rS X Y k,rZ,ND];cases Bp X Y k with
   | none=>rfl
   | some s =>
     simp only[Tc,G3,Px]
     split<;>rfl
theorem Pg(X Y:j4):zr X (Y.map ze)=(zr X Y).map ze:=by
 unfold zr;rw[zo]
 split
 ·exact rS X Y _
 ·rfl
theorem xh(l:j7):az (l.map fun x=>-x)=(az l).map ze:=by
 unfold az;rw[abE,abE];rfl
def KS(A:j5)(C:j4)(j:Nat):Prop :=
 (∃x:Int,C[j]?.getD (0,0)=(x,1)/\-1000000<=x/\x<=1000000)∨∃j',j'<C.length/\C[j']?.getD (0,0)=ze (C[j]?.getD (0,0))/\zP A j'=(zP A j).map fun x=>-x
theorem Pv(h:ar A Y C j=true):bp A Y C j=true:=by
 unfold ar at h;unfold bp;cases e:zr Y (az (zP A j))with
 | none=>rw[e]at h;cases h
 | some v =>
   rw[e]at h;simp only[xf,sw]at h⊢;obtain⟨s1,s2,I,G⟩:=lZ h.1;rw[pw s1 s2];have:=(gQ I).1 h.2;rw[G]at this;grind
theorem uV{v:j8}(h1:-1000000<=x)(h2:x<=1000000)(hv:o9 v=true)(hc:o9 c=true)(e:val c=(x:Rat)-val v):zI (x,1) v=(c,true):=by
 have hb:=aQ hv;have kb:=aQ hc;have hx:o9 (x,1)=true:=(Fr.int x e7 e7).1;have hn:(x*v.2).natAbs<=1000000*1000000000:=by
  rw[aaO];exact Y4 e7 e7
 have key:(x*v.2-v.1*1)*c.2=c.1*(1*v.2):=by
  have a:=eM (show v.2≠0 by omega);have b:=eM (show c.2≠0 by omega);have:((x:Rat)*v.2-v.1)*c.2=c.1*v.2:=by unfold val at e;grind
  have h3:(x*v.2-v.1)*c.2=c.1*v.2:=by exact_mod_cast this
  grind
 unfold zI;rw[hI (by rw[hx,hv];rfl)];simp only;obtain⟨r,e1,e2⟩:=nu (n:=x*v.2-v.1*1) (d:=1*v.2) (x:=c.1) (D:=c.2) e7 e7 e7 e7 e7 e7 key;rw[e1];have:=Fr.eq e2 (Fr.self hc) rfl;rw[this]
theorem xq(hc:o9 c=true)(hn:∃x:Int,C[j]?.getD (0,0)=(x,1)/\-1000000<=x/\x<=1000000)(h:bp A Y C j=true)
 (e:∀v,zr Y (az (zP A j))=some v->val c=val (C[j]?.getD (0,0))-val v):ar A Y C j=true:=by
 obtain⟨x,hx,h1,h2⟩:=hn;unfold bp at h;unfold ar;cases e0:zr Y (az (zP A j))with
 | none=>rw[e0]at h;cases h
 | some v =>
   rw[e0]at h;have hcv:=e v e0;have hv:=(dT e0).2.1;simp only[hx,sw]at h hcv⊢;rw[eG]at hcv;rw[uV h1 h2 hv hc hcv];simp only[aad,sw];rw[gQ hc,hcv];have:=(pw (Fr.int x e7 e7).1 hv).1 h;rw[eG]at this;grind
theorem yU(h:o9 c=true):zI c c=((0,1),true):=by
 have hb:=aQ h;unfold zI;rw[hI (by rw[h];rfl),Int.sub_self];have hp:0<c.2*c.2:=Int.mul_pos e7 e7;obtain⟨r,e1,e2⟩:=nu (n:=0) (d:=c.2*c.2) (x:=0) (D:=1) hp e7 (ZC ⟨by omega,hb.2.1⟩ ⟨by omega,hb.2.1⟩).2 e7 e7 e7 e7;rw[e1];have:=Fr.eq e2 (Fr.int 0 e7 e7) rfl;rw[this]
theorem vM{I:Nat}(hv:o9 (C[j]?.getD (0,0))=true)(e1:C[I]?.getD (0,0)=ze (C[j]?.getD (0,0)))(e2:zP A I=(zP A j).map fun x=>-x)
 (h:bp A Y C j=true) (h':bp A Y C I=true):ar A Y C j=true:=by
 unfold bp at h h';unfold ar;rw[e2,xh,Pg,e1]at h';cases e0:zr Y (az (zP A j))with
 | none=>rw[e0]at h;cases h
 | some v =>
   rw[e0]at h h';have EV:=(dT e0).2.1;simp only[sw,Tc]at h h';rw[pw hv EV]at h;rw[pw (by rw[dI];exact hv) (by rw[dI];exact EV),gl,gl]at h';have G:val (C[j]?.getD (0,0))=val v:=by grind
   have:=val_inj hv EV G;simp only;rw[this,yU EV];rfl
theorem fJ(h:zM A B C=true):C.length<=70/\A.length<=8/\B.length=A.length/\(∀j,j<C.length->o9 (C[j]?.getD (0,0))=true) /\
 (∀i,i<A.length->(A[i]?.getD []).length=C.length/\∀x∈A[i]?.getD [],-5000<=x/\x<=5000)/\∀i,i<B.length->-5000<=B[i]?.getD 0/\B[i]?.getD 0<=5000:=by
 unfold zM Bb at h;simp only[xf,sw,Di,r9]at h;obtain⟨h1,h2,h3,h4,h5,h6⟩:=h;refine⟨h1,h2,h3,fun j hj=>?_,fun i hi=>?_,fun i hi=>?_⟩
 ·rw[bk hj];exact h4 _ (vl _)
 ·rw[bk hi];exact h5 _ (vl _)
 ·rw[bk hi];exact h6 _ (vl _)
theorem fR(b:Int):(b<0/\BF b=-1)∨(¬b<0/\BF b=1):=by
 unfold BF;by_cases h:b<0
 ·exact .inl ⟨h,hI h⟩
 ·exact .inr ⟨h,hD h⟩
theorem hU{i:Nat}(hl:(A[i]?.getD []).length=n)(hi:i<A.length):
 (cL A B i).length=n+A.length+1/\(∀j,j<n->(cL A B i)[j]?.getD (0,0)=(BF (B[i]?.getD 0)*(A[i]?.getD [])[j]?.getD 0,1))/\(∀k,k<A.length->(cL A B i)[n+k]?.getD (0,0)=if k=i then(1,1) else(0,1))/\(cL A B i)[n+A.length]?.getD (0,0)=(BF (B[i]?.getD 0)*B[i]?.getD 0,1):=by
 have e1:((A[i]?.getD []).map fun x=>(BF (B[i]?.getD 0)*x,(1:Int))).length=n:=by rw[zo,hl]
 have e2:(pu A.length i).length=A.length:=by simp[pu]
 unfold cL;refine⟨by simp[hl,e2];omega,fun j hj=>?_,fun k hk=>?_,?_⟩
 ·rw[Ep (by rw[pk,e1];omega),Ep e7,MD];rw[bk (l:=A[i]?.getD []) (by rw[hl];exact hj)];rfl
 ·rw[Ep (by rw[pk,e1,e2];omega),Vy e7,e1,Nat.add_sub_cancel_left];unfold pu;rw[MD,aak hk];rfl
 ·rw[Vy (by rw[pk,e1,e2];omega),pk,e1,e2];simp
theorem uj(x:Int)(h:-1000000000<=x)(h':x<=1000000000):o9 (x,1)=true:=(Fr.int x h h').1
theorem ip(h:zM A B C=true):Ak C.length A.length (fun k j=>yY (cL A B k) j) (bV A B C.length):=by
 obtain⟨h1,h2,h3,h4,h5,h6⟩:=fJ h;have o8:∀i,i<A.length->(bV A B C.length).row i=cL A B i:=by
  intro i hi;unfold bV Tb.row;simp only[MD,aak hi,Tc,l']
 refine⟨rfl,by simp[bV],by simp[bV],fun b hb=>?_,fun i hi=>?_,fun i hi=>?_⟩
 ·simp only[bV,aai,S4]at hb;obtain⟨i,hi,rfl⟩:=hb;omega
 ·rw[o8 i hi];obtain⟨r1,J,G,I⟩:=hU (B:=B) (h5 i hi).1 hi;refine⟨r1,fun j hj=>?_⟩;by_cases hj1:j<C.length
  ·rw[J j hj1];have hm:(A[i]?.getD [])[j]?.getD 0∈A[i]?.getD []:=by
    rw[bk (l:=A[i]?.getD []) (by rw[(h5 i hi).1];exact hj1)];exact vl _
   have Iv:=(h5 i hi).2 _ hm;refine uj _ ?_ ?_<;>rcases fR (B[i]?.getD 0)with⟨_,e⟩|⟨_,e⟩<;>rw[e]<;>omega
  ·by_cases UH:j<C.length+A.length
   ·obtain⟨k,rfl⟩:∃k,j=C.length+k:=⟨j-C.length,by omega⟩;rw[G k e7];split<;>rfl
   ·obtain rfl:j=C.length+A.length:=by omega
    rw[I];have:=h6 i e7;refine uj _ ?_ ?_<;>rcases fR (B[i]?.getD 0)with⟨_,e⟩|⟨_,e⟩<;>rw[e]<;>omega
 ·rw[o8 i hi];obtain⟨r1,J,G,I⟩:=hU (B:=B) (h5 i hi).1 hi;intro j hj;rw[uc (i:=i) hi]
  ·unfold yY;rw[G i hi,hI rfl];have:val (1,1)=1:=by unfold val;grind
   rw[this];grind
  ·intro k hk CX;unfold yY;rw[G k hk,hD CX];have:val (0,1)=0:=by unfold val;grind
   rw[this];grind
theorem nV(f:Nat->Rat):∀m,r8 (fun k=>- f k) m=- r8 f m
 | 0=>by simp[r8]
 | m+1=>by simp only[r8,nV f m];grind
theorem tS(b x:Int):val (BF b*x,1)=(BF b:Rat)*(x:Rat):=by rw[eG];exact_mod_cast rfl
theorem xC(B:j7)(cs:j4)(n i:Nat):val (dY B cs n i)=- ((BF (B[i]?.getD 0):Rat)*yY cs (n+i)):=by
 unfold dY BX
 rcases fR (B[i]?.getD 0)with⟨h,e⟩|⟨h,e⟩
 ·rw[hI h,e,gl,gl];unfold yY;have:((-1:Int):Rat)=-1:=by exact_mod_cast rfl
  rw[this];grind
 ·rw[hD h,e,gl];unfold yY;have:((1:Int):Rat)=1:=by exact_mod_cast rfl
  rw[this];grind
theorem QZ(ok:zM A B C=true){r:BQ}(h:Bd A B C=some r)(hs:r.status=1):
 ∃cs,kq (C.length+A.length+1) cs/\r.Y.length=B.length/\r.value=ze (cs[C.length+A.length]?.getD (0,0))/\(∀j,j<C.length->yY cs j=val (C[j]?.getD (0,0))-r8 (fun k=>yY r.Y k*(((A[k]?.getD [])[j]?.getD 0:Int):Rat)) A.length) /\
   yY cs (C.length+A.length)=- r8 (fun k=>yY r.Y k*((B[k]?.getD 0:Int):Rat)) A.length:=by
 obtain⟨h1,h2,h3,h4,h5,h6⟩:=fJ ok;unfold Bd at h;rw[h3]at h;cases e1:aY (ee C.length A.length) 1000 (bV A B C.length)with
 | none=>rw[e1]at h;cases h
 | some p1 =>
   rw[e1]at h;simp only[G3]at h
   split at h
   ·rw[U']at h;obtain⟨Y,_,rfl⟩:=h;cases hs
   ·cases e2:bv C.length (p1.t,p1.left) A.length with
    | none=>rw[e2]at h;cases h
    | some s =>
      rw[e2]at h;simp only[G3]at h;rw[U']at h;obtain⟨p2,e3,h⟩:=h
      split at h
      ·subst h;cases hs
      ·have i1:=(dR (ip ok) e1).1;have i2:=(fG (s:=(p1.t,p1.left)) i1 e2).1;obtain⟨i3,e4,_⟩:=dR i2 e3;obtain⟨c1,c2⟩:=eu i3 e4;subst h;have J:∀j,(cz C A.length++[(0,1)])[j]?.getD (0,0)=if j<C.length then C[j]?.getD (0,0) else if j<C.length+A.length+1 then(0,1) else(0,0):=by
        intro j;unfold cz;by_cases hj:j<C.length
        ·rw[hI hj,N7,Ep hj]
        ·rw[hD hj,N7,Vy e7];have:List.replicate A.length ((0:Int),(1:Int))++[(0,1)]=List.replicate (A.length+1) (0,1):=by rw[aaA]
         rw[this,aaI];by_cases I:j<C.length+A.length+1
         ·rw[hI I,hI e7];rfl
         ·rw[hD I,hD e7];rfl
       have hz:∀k,k<A.length+1->yY (cz C A.length++[(0,1)]) (C.length+k)=0:=by
        intro k hk;unfold yY;rw[J,hD e7,hI e7];unfold val;grind
       have hY:∀k,k<A.length->yY ((List.range A.length).map (dY B p2.costs C.length)) k=- ((BF (B[k]?.getD 0):Rat)*yY p2.costs (C.length+k)):=by
        intro k hk;unfold yY;rw[MD,aak hk,Tc,l',xC];rfl
       refine⟨p2.costs,c1,by simp[h3],rfl,fun j hj=>?_,?_⟩
       ·have hr:=c2 j e7;have G:yY (cz C A.length++[(0,1)]) j=val (C[j]?.getD (0,0)):=by unfold yY;rw[J,hI hj]
        have Lr:r8 (fun k=>(yY p2.costs (C.length+k)-yY (cz C A.length++[(0,1)]) (C.length+k))*yY (cL A B k) j) A.length=r8 (fun k=>- (yY ((List.range A.length).map (dY B p2.costs C.length)) k*(((A[k]?.getD [])[j]?.getD 0:Int):Rat))) A.length :=
         bK fun k hk=>by
          rw[hz k e7,hY k hk];have:yY (cL A B k) j=(BF (B[k]?.getD 0):Rat)*(((A[k]?.getD [])[j]?.getD 0:Int):Rat):=by
           unfold yY;rw[(hU (B:=B) (h5 k hk).1 hk).2.1 j hj,tS]
          rw[this];grind
        rw[Lr,nV,G]at hr;simp only
        grind
       ·have hr:=c2 (C.length+A.length) e7;have Lr:r8 (fun k=>(yY p2.costs (C.length+k)-yY (cz C A.length++[(0,1)]) (C.length+k))*yY (cL A B k) (C.length+A.length)) A.length=r8 (fun k=>- (yY ((List.range A.length).map (dY B p2.costs C.length)) k*((B[k]?.getD 0:Int):Rat))) A.length :=
         bK fun k hk=>by
          rw[hz k e7,hY k hk];have:yY (cL A B k) (C.length+A.length)=(BF (B[k]?.getD 0):Rat)*((B[k]?.getD 0:Int):Rat):=by
           unfold yY;rw[(hU (B:=B) (h5 k hk).1 hk).2.2.2,tS]
          rw[this];grind
        rw[Lr,nV,hz A.length e7]at hr;simp only
        grind
theorem uR(A:j5)(j k:Nat)(hk:k<A.length):(zP A j)[k]?.getD 0=(A[k]?.getD [])[j]?.getD 0:=by
 unfold zP;rw[MD,bk hk];rfl
theorem Pu(ok:zM A B C=true)(hn:∀j,j<C.length->KS A C j){r:BQ}(h:Bd A B C=some r):aK ar A B C r=aK bp A B C r:=by
 unfold aK
 split
 ·next hs =>
  obtain⟨cs,c1,c2,c3,c4,c5⟩:=QZ ok h hs;obtain⟨h1,h2,h3,h4,h5,h6⟩:=fJ ok;have key:(List.range C.length).all (ar A r.Y C)=(List.range C.length).all (bp A r.Y C):=by
   rw[U9,Di,Di];constructor
   ·intro ha j hj;exact Pv (ha j hj)
   ·intro ha j hj;have hj':=S4.1 hj
    rcases hn j hj' with hi|⟨G,I,e1,e2⟩
    ·refine xq (c1.2 j e7) hi (ha j hj) fun v hv=>?_
     have:=c4 j hj';unfold yY at this;rw[this];obtain⟨d1,d2,d3,d4⟩:=dT hv;rw[d4,c2,h3]
     congr 1
     refine bK fun k hk=>?_
     unfold yY;rw[lJ (by simp[zP];omega),uR A j k hk,eG]
    ·exact vM (h4 j hj') e1 e2 (ha j hj) (ha G (S4.2 I))
  rw[key]
 ·rfl
theorem MX(hn:zM A B C=true->∀j,j<C.length->KS A C j):bD ar A B C=bD bp A B C:=by
 unfold bD
 split
 ·next ok =>
  cases e:Bd A B C with
  | none=>rfl
  | some r=>simp only[Pu ok (hn ok) e]
 ·rfl
