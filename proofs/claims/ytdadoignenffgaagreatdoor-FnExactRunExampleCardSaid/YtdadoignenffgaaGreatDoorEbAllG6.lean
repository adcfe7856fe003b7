import Derived.Test.YtdadoignenffgaaGreatDoorEbAllG5
import Derived.Test.YtdadoignenffgaaGreatDoorEbAllG0
import Derived.Test.YtdadoignenffgaaGreatDoorEbAllG2
import Derived.Test.YtdadoignenffgaaGreatDoorEbAllG1
set_option linter.unusedVariables false
set_option linter.unusedSimpArgs false
namespace Go.Proofs.YtdadoignenffgaaGreatDoor
variable{B l r m:j7}{base n i b c j d k N G:Nat}{cs:j4}{a:j6}{w:World}{α:Type}{M L:j5}{vs:List Value}
set_option maxHeartbeats 16000000
def dA(B:j7)(base:j8)(cs:j4)(n i:Nat):j8:=BX (B[i]?.getD 0) (zI base (cs[n+i]?.getD (0,0))).1
def Ct(A:j5)(B:j7)(C:j4):Option BQ :=
 (aY (ee C.length B.length) 1000 (bV A B C.length)).bind fun p1 =>
   if(p1.costs[C.length+B.length]?.getD (0,0)).1<0 then
    some ⟨2,[],(List.range B.length).map (dA B (1,1) p1.costs C.length),[],(0,0),1000-p1.left⟩
   else(bv C.length (p1.t,p1.left) B.length).bind fun s=>(aY (cz C B.length) s.2 s.1).map fun p2 =>
    if 0<=p2.zp then⟨3,(A7 p2.t).take C.length,[],AY p2.t C.length p2.zp.toNat B.length,(0,0),1000-p2.left⟩
    else⟨1,(A7 p2.t).take C.length,(List.range B.length).map (dA B (0,1) p2.costs C.length),[],ze (p2.costs[C.length+B.length]?.getD (0,0)),1000-p2.left⟩
def fd(A:j5)(B:j7)(C:j4):BQ :=
 if zM A B C=true then
  match Ct A B C with
  | none=>aV 4
  | some r=>if aK bp A B C r=true then r else aV 4
 else aV 0
theorem vX{base:j8}{x:j8}(h:fH B base cs n i=some x):dA B base cs n i=x:=by
 unfold fH at h
 split at h
 ·exact Og h
 ·cases h
theorem rt{a b:j8}(h:(zI a b).2=false):(zI a b).1=(0,0):=by
 unfold zI at h⊢
 split
 ·next hv=>rw[hI hv]at h;exact Nl h
 ·rfl
theorem vW{base:j8}(h:fH B base cs n i=none):o9 (dA B base cs n i)=false:=by
 unfold fH at h
 split at h
 ·cases h
 ·next hf =>
  unfold dA;rw[rt (by simpa using hf)];unfold BX ze
  split<;>rfl
theorem xD(hv:o9 (cs[n+i]?.getD (0,0))=true):dA B (0,1) cs n i=dY B cs n i:=by
 unfold dA dY;rw[uV (x:=0) (c:=ze (cs[n+i]?.getD (0,0))) e7 e7 hv (by rw[dI];exact hv) (by rw[gl];grind)]
theorem oV{f:Nat->Option (Int×Int)}:∀{k:Nat},runT f k=none->∃i,i<k/\f i=none
 | 0,h=>by cases h
 | k+1,h=>by
   cases hk:runT f k with
   | none=>obtain⟨i,hi,hf⟩:=oV hk;exact⟨i,by omega,hf⟩
   | some l =>
     cases hf:f k with
     | none=>exact⟨k,by omega,hf⟩
     | some x=>rw[eE hk hf]at h;cases h
theorem Q0{A:j5}{C:j4}(ok:zM A B C=true):
 Ct A B C=Bd A B C∨(Bd A B C=none/\∃r,Ct A B C=some r/\aK bp A B C r=false):=by
 obtain⟨h1,h2,h3,h4,h5,h6⟩:=fJ ok;unfold Ct Bd;cases e1:aY (ee C.length B.length) 1000 (bV A B C.length)with
 | none=>exact aaJ rfl
 | some p1 =>
   simp only[G3];by_cases Du:(p1.costs[C.length+B.length]?.getD (0,0)).1<0
   ·rw[hI Du,hI Du];cases hr:runT (fH B (1,1) p1.costs C.length) B.length with
    | some Y =>
      left
      have hY:(List.range B.length).map (dA B (1,1) p1.costs C.length)=Y:=by
       have:=tA (f:=fH B (1,1) p1.costs C.length) (F:=dA B (1,1) p1.costs C.length) (k:=B.length) fun i hi=>by
        have:=lS hr i hi;rw[this,vX this]
       rw[hr]at this;exact(Og this).symm
      rw[hY];rfl
    | none =>
      right
      refine⟨rfl,_,rfl,?_⟩;obtain⟨i,hi,hf⟩:=oV hr;have hv:=vW hf;unfold aK;rw[hD e8,hI rfl];simp only;rw[aaR]
      right
      unfold lR;rw[aaR]
      right
      cases hd:zr ((List.range B.length).map (dA B (1,1) p1.costs C.length)) (az B)with
      | none=>rfl
      | some v =>
        exfalso
        have:=((dT hd).2.2.1 i (by simpa using hi)).1;rw[MD,aak hi,Tc,l',hv]at this;cases this
   ·rw[hD Du,hD Du]
    left
    cases e2:bv C.length (p1.t,p1.left) B.length with
    | none=>rfl
    | some s =>
      simp only[G3];cases e3:aY (cz C B.length) s.2 s.1 with
      | none=>rfl
      | some p2 =>
        simp only[Tc]
        split
        ·rfl
        ·have i1:=(dR (ip ok) e1).1;have i2:=(fG (s:=(p1.t,p1.left)) i1 e2).1;obtain⟨i3,e4,_⟩:=dR i2 e3;obtain⟨c1,c2⟩:=eu i3 e4
         congr 2
         apply abT
         intro i hi;exact xD (c1.2 _ (j1 (S4.1 hi)))
theorem yT(A:j5)(B:j7)(C:j4):fd A B C=bD bp A B C:=by
 unfold fd bD
 split
 ·next ok =>
  rcases Q0 ok with h|⟨h1,r,h2,h3⟩
  ·rw[h];cases Bd A B C<;>rfl
  ·rw[h1,h2];simp only;rw[h3];rfl
 ·rfl
theorem pm{A:j5}{C:j4}(hn:zM A B C=true->∀j,j<C.length->KS A C j):bD ar A B C=fd A B C:=by rw[yT];exact MX hn
open Go.RowKit
def bit(s:Int)(k:Nat):Bool:=decide (s/2^k % 2=1)
def BC(s k:Int):Bool:=decide (0<=s)&&(r9 k 0 4&&bit s k.toNat)
def BO(n:Int):Int:=if r9 n 0 5 then 2^n.toNat else 0
theorem R'(a b:Nat)(ha:a<9223372036854775808)(hb:b<9223372036854775808):bits .and .i64 (a:Int) (b:Int)=((a &&& b:Nat):Int):=by
 have hx:a &&& b<2^63:=Nat.and_lt_two_pow _ e7;have h1:(BitVec.ofInt 64 (a:Int)).toNat=a:=by rw[abi,abv];exact abq e7
 have h2:(BitVec.ofInt 64 (b:Int)).toNat=b:=by rw[abi,abv];exact abq e7
 show IntKind.i64.wrap ((BitVec.ofInt 64 (a:Int) &&& BitVec.ofInt 64 (b:Int)).toNat:Int)=_;rw[BitVec.toNat_and,h1,h2,cn];omega
theorem T3(a b:Nat)(ha:a<9223372036854775808)(hb:b<9223372036854775808):bits .or .i64 (a:Int) (b:Int)=((a ||| b:Nat):Int):=by
 have hx:a ||| b<2^63:=Nat.or_lt_two_pow e7 e7
 have h1:(BitVec.ofInt 64 (a:Int)).toNat=a:=by rw[abi,abv];exact abq e7
 have h2:(BitVec.ofInt 64 (b:Int)).toNat=b:=by rw[abi,abv];exact abq e7
 show IntKind.i64.wrap ((BitVec.ofInt 64 (a:Int) ||| BitVec.ofInt 64 (b:Int)).toNat:Int)=_;rw[BitVec.toNat_or,h1,h2,cn];omega
theorem pz(x:Int)(h:0<=x)(h':x<=9223372036854775807):bits BinOp.and IntKind.i64 x 1=x % 2:=by
 obtain⟨n,rfl⟩:∃n:Nat,x=n:=⟨x.toNat,by omega⟩;have:=R' n 1 e7 e7;rw[Nat.and_one_is_mod]at this;have h2:((n % 2:Nat):Int)=(n:Int) % 2:=by omega
 exact this.trans h2
theorem fi(k:Nat):(1:Int)<=2^k:=by
 have:(0:Int)<2^k:=Int.pow_pos (by decide);omega
theorem gj(k:Nat)(h:k<=5):(2:Int)^k<=32:=by
 have:k=0∨k=1∨k=2∨k=3∨k=4∨k=5:=by omega
 rcases this with rfl|rfl|rfl|rfl|rfl|rfl<;>decide
theorem lN(s:Int)(k:Nat)(h:0<=s):0<=s/2^k/\s/2^k<=s:=by
 have:=fi k;exact⟨Int.ediv_nonneg h e7,Int.ediv_le_self _ h⟩
theorem jX(s:Int)(k:Nat)(h:0<=s)(h':s<=9223372036854775807):(bits BinOp.and IntKind.i64 (s/2^k) 1 == 1)=bit s k:=by
 have:=lN s k h;rw[pz _ this.1 e7];unfold bit;rw[U9];simp
theorem kC(k:Nat)(h:k<=5):wrap64 ((2:Int)^k)=2^k:=by
 have:=fi k;have:=gj k h;unfold wrap64;omega
theorem fP(s k:Int)(w:World)(h':s<=9223372036854775807):
 Calls Tryz.prog 133 #[.int .i64 s,.int .i64 k] w fun e w'=>e=.returned (.bool (BC s k))/\w=w':=by
 by_cases hs:0<=s
 ·cases hk:r9 k 0 4
  ·go_enter aex,aea
   go_wp2_with (first|(go_at_call 61;refine(aq _ _ _ _).mono ?_;rintro e w' ⟨rfl,rfl⟩));go_ret;exact⟨ag (by unfold BC;rw[hk];simp),rfl⟩
  ·obtain⟨n,rfl⟩:∃n:Nat,k=n:=⟨k.toNat,by unfold r9 at hk;simp at hk;omega⟩;have hn:n<=4:=by unfold r9 at hk;simp at hk;omega
   have hb:=jX s n hs h';go_enter aex,aea
   go_wp2_with (first|(go_at_call 61;refine(aq _ _ _ _).mono ?_;rintro e w' ⟨rfl,rfl⟩));go_ret;exact⟨ag (by unfold BC;rw[hk];simp[hs]),rfl⟩
 ·go_enter aex,aea
  go_wp2_with fail;go_ret;exact⟨ag (by unfold BC;rw[u' e7];rfl),rfl⟩
theorem fM(n:Int)(w:World):Calls Tryz.prog 143 #[.int .i64 n] w fun e w'=>e=.returned (.int .i64 (BO n))/\w=w':=by
 cases hk:r9 n 0 5
 ·go_enter Tryz.func143,Tryz.ntmps143
  go_wp2_with (first|(go_at_call 61;refine(aq _ _ _ _).mono ?_;rintro e w' ⟨rfl,rfl⟩));go_ret;exact⟨ap (by unfold BO;rw[hk];rfl),rfl⟩
 ·obtain⟨k,rfl⟩:∃k:Nat,n=k:=⟨n.toNat,by unfold r9 at hk;simp at hk;omega⟩;have hn:k<=5:=by unfold r9 at hk;simp at hk;omega
  have hw:=kC k hn;go_enter Tryz.func143,Tryz.ntmps143
  go_wp2_with (first|(go_at_call 61;refine(aq _ _ _ _).mono ?_;rintro e w' ⟨rfl,rfl⟩));go_ret;exact⟨ap (by unfold BO;rw[hk];simpa using kC k hn),rfl⟩
theorem df(n:Int)(w:World):Calls Tryz.prog 99 #[.int .i64 n] w fun e w'=>e=.returned (.int .i64 (BO n))/\w=w':=by
 cases hk:r9 n 0 5
 ·go_enter Tryz.func99,Tryz.ntmps99
  go_wp2_with (first|(go_at_call 45;refine(aZ _ _ _ _).mono ?_;rintro e w' ⟨rfl,rfl⟩));go_ret;exact⟨ap (by unfold BO;rw[hk];rfl),rfl⟩
 ·obtain⟨m,rfl⟩:∃k:Nat,n=k:=⟨n.toNat,by unfold r9 at hk;simp at hk;omega⟩;have hn:m<=5:=by unfold r9 at hk;simp at hk;omega
  go_enter Tryz.func99,Tryz.ntmps99
  go_wp2_with (first|(go_at_call 45;refine(aZ _ _ _ _).mono ?_;rintro e w' ⟨rfl,rfl⟩))
  go_loop [3,4] (fun s i=>∃(k:Nat) (z:Int),k<=m/\i=.int .i64 k/\s=.int .i64 z/\0<=z/\z<=32/\b7 (z=2^k)) (fun _ i=>m-(intOf i).toNat)
  case atStart=>exact⟨0,1,KJ _,rfl,rfl,by omega,by omega,ae e8⟩
  case round =>
   obtain⟨k,z,Cr,rfl,rfl,AU,Fq,HZ⟩:=hrel;by_cases hlt:k<m
   ·go_wp2
    go_round
    case rel =>
     refine⟨k+1,z*2,by omega,by go_num,rfl,by omega,?_,ae (by rw[HZ.o,Int.pow_succ])⟩;have:=gj (k+1) e7;rw[Int.pow_succ,<-HZ.o]at this;exact this
    case measure=>simp[intOf];omega
   ·go_wp2
    go_ret;have I:k=m:=by omega
    subst I;exact⟨ap (by unfold BO;rw[hk];simpa using HZ.o),rfl⟩
theorem Pt(k:Int)(h:r9 k 0 4=true):BO k=2^k.toNat:=by
 unfold BO;rw[hI];unfold r9 at *;simp at *;omega
theorem vB(n:Int)(w:World):Calls Tryz.prog 43 #[.int .i64 n] w fun e w'=>e=.returned (.int .i64 (BO n))/\w=w':=by
 go_enter Tryz.func43,Tryz.ntmps43
 go_wp2_with (first|(go_at_call 99;refine(df _ _).mono ?_;rintro e w' ⟨rfl,rfl⟩));go_ret;exact⟨rfl,rfl⟩
theorem cw(s k:Int)(w:World)(h':s<=9223372036854775807):
 Calls Tryz.prog 40 #[.int .i64 s,.int .i64 k] w fun e w'=>e=.returned (.bool (BC s k))/\w=w':=by
 cases hk:r9 k 0 4
 ·go_enter aeR,aey
  go_wp2_with (first|(go_at_call 45;refine(aZ _ _ _ _).mono ?_;rintro e w' ⟨rfl,rfl⟩));go_ret;exact⟨ag (by unfold BC;rw[hk];simp),rfl⟩
 ·by_cases hs:0<=s
  ·obtain⟨n,rfl⟩:∃n:Nat,k=n:=⟨k.toNat,by unfold r9 at hk;simp at hk;omega⟩;have hn:n<=4:=by unfold r9 at hk;simp at hk;omega
   have hc:BO (n:Int)=2^n:=by rw[Pt _ hk];simp
   have hp:=fi n;have hd:=lN s n hs;have Ir:=hd.1;have hne:((2:Int)^n == 0)=false:=by simp;omega
   have HB:=ae (show(s/2^n % 2 == 1)=bit s n by unfold bit;rw[U9];simp);have HD:=ae hd;clear hd;go_enter aeR,aey
   go_wp2_with (first|(go_at_call 45;refine(aZ _ _ _ _).mono ?_;rintro e w' ⟨rfl,rfl⟩)|(go_at_call 43;refine(vB _ _).mono ?_;rintro e w' ⟨rfl,rfl⟩));go_ret;exact⟨ag (by rw[HB.o];unfold BC;rw[hk];simp[hs]),rfl⟩
  ·go_enter aeR,aey
   go_wp2_with (first|(go_at_call 45;refine(aZ _ _ _ _).mono ?_;rintro e w' ⟨rfl,rfl⟩));go_ret;exact⟨ag (by unfold BC;rw[u' e7];rfl),rfl⟩
def zA(b:Bool):Int:=if b then 1 else 0
theorem fk(b:Bool)(w:World):Calls Tryz.prog 104 #[.bool b] w fun e w'=>e=.returned (.int .i64 (zA b))/\w=w':=by
 cases b
 all_goals
  go_enter Tryz.func104,Tryz.ntmps104
  go_wp2
  go_ret;exact⟨rfl,rfl⟩
def du(s:Int)(l:j7):Nat->Int
 | 0=>0
 | k+1=>if bit s k then wrap64 (du s l k+l[k]?.getD 0) else du s l k
theorem el(s:Int)(k:Nat)(h:0<=s)(hk:k<=4):BC s (k:Int)=bit s k:=by
 unfold BC r9;rw[z' h,z' e7,z' e7];simp
theorem qy{cap:Nat}(s:Int)(h:Ints w a n cap l)(h0:0<=s)(h1:s<=9223372036854775807)(h5:n<=60):
 Calls Tryz.prog 149 #[.slice a n cap,.int .i64 s] w fun e w'=>e=.returned (.int .i64 (du s l n))/\w=w':=by
 have hn:=h.l8;have hm:=h.l9;go_enter Tryz.func149,Tryz.ntmps149
 go_wp2
 go_loop [5,10] (fun t i=>∃k:Nat,k<=n/\i=.int .i64 k/\t=.int .i64 (du s l k)) (fun _ i=>n-(intOf i).toNat)
 case atStart=>exact⟨0,KJ _,rfl,rfl⟩
 case round =>
  obtain⟨k,hk,rfl,rfl⟩:=hrel;by_cases hlt:k<n
  ·obtain⟨b,off,rfl,hc⟩:=h.at hlt;have hb:=jX s k h0 h1;cases hbit:bit s k
   all_goals
    rw[hbit]at hb;have HB:=ae hbit;clear hbit
    go_wp2
    go_round
    case rel=>exact⟨k+1,by omega,by go_num,by simp only[du,HB.o];rfl⟩
    case measure=>simp[intOf];omega
  ·go_wp2
   go_ret;have I:k=n:=by omega
   subst I;exact⟨rfl,rfl⟩
def cN(n:Nat):Nat:=2^n
theorem iP(n:Nat):(cN n:Int)=2^n:=by unfold cN;simp
theorem bP(n:Nat)(h:n<=5):1<=cN n/\cN n<=32:=by
 have h1:=fi n;have h2:=gj n h;rw[<-iP]at h1 h2;omega
theorem eH(n:Nat)(h:n<=5):BO (n:Int)=(cN n:Int):=by
 unfold BO;rw[hI (by unfold r9;simp;omega),iP];simp
theorem kv(n:Nat)(h:n<=5)(w:World):Calls Tryz.prog 99 #[.int .i64 (n:Int)] w fun e w'=>e=.returned (.int .i64 (cN n:Int))/\w=w':=by
 have:=df n w
 rwa [eH n h]at this
theorem si(n:Nat)(h:n<=5)(w:World):Calls Tryz.prog 143 #[.int .i64 (n:Int)] w fun e w'=>e=.returned (.int .i64 (cN n:Int))/\w=w':=by
 have:=fM n w
 rwa [eH n h]at this
def AH(M:j5)(c d:Nat):Nat:=match (M.drop d).findIdx? (fun r=>r[c]?.getD 0 != 0)with|some k=>d+k|none=>M.length
def swp{α:Type}[Inhabited α](l:List α)(a b:Nat):List α:=(l.set a (l[b]?.getD default)).set b (l[a]?.getD default)
theorem dh[Inhabited α](l:List α)(a b:Nat):(swp l a b).length=l.length:=by simp[swp]
theorem jn[Inhabited α]{l:List α}{a b:Nat}(ha:a<l.length)(hb:b<l.length)(i:Nat):(swp l a b)[i]?.getD default=if i=b then l[a]?.getD default else if i=a then l[b]?.getD default else l[i]?.getD default:=by
 unfold swp;by_cases h1:i=b
 ·subst h1;rw[hI rfl];simp[hb]
 ·rw[hD h1,DZ (aax h1)];by_cases h2:i=a
  ·subst h2;rw[hI rfl];simp[ha]
  ·rw[hD h2,DZ (aax h2)]
theorem MR[Inhabited α](l:List α){a b:Nat}(ha:a<l.length)(hb:b<l.length):swp l a b=swp l b a:=by
 apply List.ext_getElem?
 intro i;by_cases hi:i<l.length
 ·have h1:=jn ha hb i;have h2:=jn hb ha i;have e:(if i=b then l[a]?.getD default else if i=a then l[b]?.getD default else l[i]?.getD default)=(if i=a then l[b]?.getD default else if i=b then l[a]?.getD default else l[i]?.getD default):=by
   by_cases h3:i=b
   ·subst h3;by_cases h4:i=a
    ·subst h4;simp
    ·simp[h4]
   ·simp[h3]
  rw[e,<-h2]at h1;have l1:i<(swp l a b).length:=by rw[dh];exact hi
  have l2:i<(swp l b a).length:=by rw[dh];exact hi
  rw[bk l1,bk l2]at h1⊢
  simpa using h1
 ·rw[G4 (by rw[dh];omega),G4 (by rw[dh];omega)]
def zG(c:Nat)(p r:j7):j7:=(List.range r.length).map fun j=>r[j]?.getD 0*p[c]?.getD 0-r[c]?.getD 0*p[j]?.getD 0
def Da(l:j7):Int:=l.foldl gI 0
def bZ(c:Nat)(p r:j7):j7:=if r[c]?.getD 0=0 then r else(zG c p r).map fun x=>x.tdiv (max (Da (zG c p r)) 1)
theorem eK(c:Nat)(p r:j7):(zG c p r).length=r.length:=by simp[zG]
theorem xE(c:Nat)(p r:j7):(bZ c p r).length=r.length:=by unfold bZ;split<;>simp[eK]
theorem iN{p:j7}(h:j<r.length):(zG c p r)[j]?.getD 0=r[j]?.getD 0*p[c]?.getD 0-r[c]?.getD 0*p[j]?.getD 0:=by simp[zG,h]
def Bt(e:Nat->j7->j7->j7)(c:Nat)(M:j5)(d t:Nat):j5:=(List.range M.length).map fun i=>if d<i/\i<t then e c (M[d]?.getD []) (M[i]?.getD []) else M[i]?.getD []
theorem dN(e:Nat->j7->j7->j7)(c:Nat)(M:j5)(d t:Nat):(Bt e c M d t).length=M.length:=by simp[Bt]
theorem gU(e:Nat->j7->j7->j7)(c:Nat)(M:j5)(d t:Nat)(h:i<M.length):(Bt e c M d t)[i]?.getD []=if d<i/\i<t then e c (M[d]?.getD []) (M[i]?.getD []) else M[i]?.getD []:=by simp[Bt,h]
theorem kl{l I:j5}(hl:l.length=I.length)(h:∀i,i<l.length->l[i]?.getD []=I[i]?.getD []):l=I:=by
 apply aaB hl
 intro i h1 h2;have:=h i h1;rw[bk h1,bk h2]at this
 simpa using this
theorem oU(e:Nat->j7->j7->j7)(c:Nat)(M:j5)(d:Nat):Bt e c M d (d+1)=M:=by
 refine kl (dN _ _ _ _ _) fun i hi=>?_
 rw[dN]at hi;rw[gU _ _ _ _ _ hi,hD e7]
theorem lw(e:Nat->j7->j7->j7)(c:Nat)(M:j5)(d t:Nat)(h:d<t)(ht:t<M.length):(Bt e c M d t).set t (e c (M[d]?.getD []) (M[t]?.getD []))=Bt e c M d (t+1):=by
 refine kl (by simp[dN]) fun i hi=>?_
 rw[H4,dN]at hi;rw[gU _ _ _ _ _ hi];by_cases RE:i=t
 ·subst RE;rw[hI ⟨h,by omega⟩,H3 (by rw[dN];exact ht)];rfl
 ·rw[DZ (aax RE),gU _ _ _ _ _ hi];by_cases h2:d<i/\i<t
  ·rw[hI h2,hI ⟨h2.1,by omega⟩]
  ·rw[hD h2,hD e7]
theorem gV(e:Nat->j7->j7->j7)(c:Nat)(M:j5)(d t i:Nat)(h:i<M.length)(hi:t<=i∨i<=d):(Bt e c M d t)[i]?.getD []=M[i]?.getD []:=by
 rw[gU _ _ _ _ _ h,hD e7]
theorem yy{e:Nat->j7->j7->j7}{t:Nat}(h:d<t)(ht:t<M.length)(he:e c (M[d]?.getD []) (M[t]?.getD [])=M[t]?.getD []):Bt e c M d t=Bt e c M d (t+1):=by
 rw[<-lw e c M d t h ht,he];refine kl e8 fun i hi=>?_
 rw[dN]at hi;by_cases RE:i=t
 ·subst RE;rw[H3 (by rw[dN];exact hi),gV _ _ _ _ _ _ hi e7];rfl
 ·rw[DZ (aax RE)]
def DP(m r:j7)(j:Nat):j7:=m.take j++r.drop j
theorem qG(m r:j7):DP m r 0=r:=by simp[DP]
theorem sY(h:m.length=r.length):DP m r m.length=m:=by unfold DP;rw[aaN,h,List.drop_length,ZR]
theorem ve(h:m.length=r.length)(hj:j<r.length):(DP m r j)[j]?.getD 0=r[j]?.getD 0:=by
 unfold DP;have hl:(m.take j).length=j:=by simp;omega
 rw[Vy e7,hl,aaS];simp
theorem NG(h:m.length=r.length)(hj:j<r.length):(DP m r j).set j (m[j]?.getD 0)=DP m r (j+1):=by
 unfold DP;have hl:(m.take j).length=j:=by simp;omega
 rw[abF _ _ e7,hl,ab2,List.drop_eq_getElem_cons hj,abZ,cu e7,N7]
 rfl
theorem MZ(hi:i<M.length)(h:M[i]?.getD []=r):M.set i r=M:=by
 refine kl e8 fun k hk=>?_
 rw[H4]at hk;by_cases e:k=i
 ·subst e;rw[H3 hi,h];rfl
 ·rw[DZ (aax e)]
theorem ro(hi:i<M.length)(hl:m.length=r.length)(hj:j<r.length):(M.set i (DP m r j)).set i (((M.set i (DP m r j))[i]?.getD []).set j (m[j]?.getD 0))=M.set i (DP m r (j+1)):=by
 rw[H3 hi,l',aen,NG hl hj]
def Co(e:Nat->j7->j7->j7)(c:Nat)(s:j5×Nat):j5×Nat :=
 if AH s.1 c s.2<s.1.length then(Bt e c (swp s.1 s.2 (AH s.1 c s.2)) s.2 s.1.length,s.2+1) else s
def runM(e:Nat->j7->j7->j7)(M:j5):Nat->j5×Nat
 | 0=>(M,0)
 | c+1=>Co e c (runM e M c)
theorem eD(h:AH M c d<M.length):d<=AH M c d/\(M[AH M c d]?.getD [])[c]?.getD 0≠0/\∀i,d<=i->i<AH M c d->(M[i]?.getD [])[c]?.getD 0=0:=by
 unfold AH at h⊢;cases hf:(M.drop d).findIdx? (fun r=>r[c]?.getD 0 != 0)with
 | none=>rw[hf]at h;simp at h
 | some k =>
   simp only;rw[aag]at hf;obtain⟨h1,h2,h3⟩:=hf;rw[aaj]at h1;refine⟨by omega,?_,fun i hi RG=>?_⟩
   ·rw[List.getElem_drop]at h2;have:d+k<M.length:=by omega
    rw[bk this];simpa using h2
   ·have h4:=h3 (i-d) e7;rw[List.getElem_drop]at h4;have:i<M.length:=by omega
    rw[bk this];have e:d+(i-d)=i:=by omega
    simp only[e]at h4
    simpa using h4
theorem ik(h:¬AH M c d<M.length)(hd:d<=M.length):AH M c d=M.length/\∀i,d<=i->i<M.length->(M[i]?.getD [])[c]?.getD 0=0:=by
 unfold AH at h⊢;cases hf:(M.drop d).findIdx? (fun r=>r[c]?.getD 0 != 0)with
 | none =>
   refine⟨rfl,fun i hi RG=>?_⟩;rw[abh]at hf;have:=hf (M[i]) (List.mem_drop_iff_getElem.2 ⟨i-d,by omega,by congr 1;omega⟩);rw[bk RG]
   simpa using this
 | some k =>
   rw[hf]at h;simp only at h;rw[aag]at hf;obtain⟨h1,_⟩:=hf;rw[aaj]at h1;omega
theorem Q2(hk:d<=k)(Ci:k<M.length)(h:(M[k]?.getD [])[c]?.getD 0≠0)(hz:∀i,d<=i->i<k->(M[i]?.getD [])[c]?.getD 0=0):AH M c d=k:=by
 by_cases hp:AH M c d<M.length
 ·obtain⟨h1,h2,h3⟩:=eD hp
  rcases Nat.lt_trichotomy (AH M c d) k with h4|h4|h4
  ·exact absurd (hz _ h1 h4) h2
  ·exact h4
  ·exact absurd (h3 k hk h4) h
 ·exact absurd ((ik hp e7).2 k hk Ci) h
theorem Nr(hd:d<=M.length)(hz:∀i,d<=i->i<M.length->(M[i]?.getD [])[c]?.getD 0=0):AH M c d=M.length:=by
 by_cases hp:AH M c d<M.length
 ·obtain⟨h1,h2,h3⟩:=eD hp;exact absurd (hz _ h1 hp) h2
 ·exact(ik hp hd).1
theorem vm(M:j5)(c:Nat)(hd:d<=M.length):d<=AH M c d/\AH M c d<=M.length:=by
 by_cases hp:AH M c d<M.length
 ·exact⟨(eD hp).1,Nat.le_of_lt hp⟩
 ·rw[(ik hp hd).1];exact⟨hd,ao _⟩
theorem ym(hd:d<=M.length)(h1:d<=k)(h2:k<AH M c d):(M[k]?.getD [])[c]?.getD 0=0:=by
 by_cases hp:AH M c d<M.length
 ·exact(eD hp).2.2 k h1 h2
 ·have:=ik hp hd;exact this.2 k h1 e7
def Good(n:Nat)(B:Int)(M:j5):Prop:=∀i,i<M.length->(M[i]?.getD []).length=n/\∀j:Nat,-B<=(M[i]?.getD [])[j]?.getD 0/\(M[i]?.getD [])[j]?.getD 0<=B
def J3:Nat->Int
 | 0=>1
 | d+1=>2*(J3 d*J3 d)
theorem gw:∀d,d<=4->1<=J3 d/\J3 d<=32768/\J3 d<=J3 (d+1):=by
 have:∀d:Fin 5,1<=J3 d.val/\J3 d.val<=32768/\J3 d.val<=J3 (d.val+1):=by decide +kernel
 exact fun d hd=>this ⟨d,by omega⟩
theorem gT{x y B:Int}(h1:-B<=x)(h2:x<=B)(h3:-B<=y)(h4:y<=B):-(B*B)<=x*y/\x*y<=B*B:=by
 have hx:x.natAbs<=B.natAbs:=by omega
 have hy:y.natAbs<=B.natAbs:=by omega
 have h:(x*y).natAbs<=B.natAbs*B.natAbs:=by rw[aaO];exact Y4 hx hy
 have e:((B.natAbs*B.natAbs:Nat):Int)=B*B:=by
    rw[acv];have:(B.natAbs:Int)=B:=by omega
    rw[this]
 omega
theorem sZ{p:j7}{B:Int}(hp:∀j:Nat,-B<=p[j]?.getD 0/\p[j]?.getD 0<=B)(hr:∀j:Nat,-B<=r[j]?.getD 0/\r[j]?.getD 0<=B)(j:Nat):
 -(2*(B*B))<=(zG c p r)[j]?.getD 0/\(zG c p r)[j]?.getD 0<=2*(B*B):=by
 by_cases h:j<r.length
 ·rw[iN h];have h1:=gT (hr j).1 (hr j).2 (hp c).1 (hp c).2;have h2:=gT (hr c).1 (hr c).2 (hp j).1 (hp j).2;omega
 ·rw[G4 (by rw[eK];omega)];simp only[aaa];have:=gT (hr 0).1 (hr 0).2 (hr 0).1 (hr 0).2;have h0:0<=B*B:=by
     have h1:=hr 0;have:0<=B:=by omega
     exact aa2 this this
  omega
theorem RX{p:j7}{B:Int}(I:1<=B)(hp:∀j:Nat,-B<=p[j]?.getD 0/\p[j]?.getD 0<=B)(hr:∀j:Nat,-B<=r[j]?.getD 0/\r[j]?.getD 0<=B)(j:Nat):
 -(2*(B*B))<=(bZ c p r)[j]?.getD 0/\(bZ c p r)[j]?.getD 0<=2*(B*B):=by
 have q8:B<=B*B:=by have:=Int.mul_le_mul_of_nonneg_left I (show 0<=B by omega);omega
 unfold bZ
 split
 ·have:=hr j;omega
 ·have h1:=sZ (c:=c) hp hr j;by_cases h:j<r.length
  ·have e:((zG c p r).map fun x=>x.tdiv (max (Da (zG c p r)) 1))[j]?.getD 0=((zG c p r)[j]?.getD 0).tdiv (max (Da (zG c p r)) 1):=by
    simp[eK,h]
   rw[e];generalize(zG c p r)[j]?.getD 0=x at *;have h2:(x.tdiv (max (Da (zG c p r)) 1)).natAbs<=x.natAbs:=by rw[adC];exact adD _ _
   omega
  ·rw[G4 (by simp[eK];omega)];simp only[aaa];omega
theorem iV{B:Int}(h:Good n B M){a:Nat}(ha:a<M.length)(hb:b<M.length):Good n B (swp M a b):=by
 intro i hi;rw[dh]at hi;have:=jn ha hb i;change(swp M a b)[i]?.getD []=_ at this;rw[this]
 split
 ·exact h a ha
 ·split
  ·exact h b hb
  ·exact h i hi
theorem mY{B I:Int}(h:Good n B M)(q8:B<=I){e:Nat->j7->j7->j7}{t:Nat}(hd:d<M.length)
 (he:∀p r:j7,p.length=n->r.length=n->(∀j:Nat,-B<=p[j]?.getD 0/\p[j]?.getD 0<=B)->(∀j:Nat,-B<=r[j]?.getD 0/\r[j]?.getD 0<=B)->(e c p r).length=n/\∀j:Nat,-I<=(e c p r)[j]?.getD 0/\(e c p r)[j]?.getD 0<=I):Good n I (Bt e c M d t):=by
 intro i hi;rw[dN]at hi;rw[gU _ _ _ _ _ hi]
 split
 ·exact he _ _ (h d hd).1 (h i hi).1 (h d hd).2 (h i hi).2
 ·have:=h i hi;exact⟨this.1,fun j=>by have:=this.2 j;omega⟩
def Vt(e:Nat->j7->j7->j7):Prop:=∀(B:Int) (n c:Nat) (p r:j7),1<=B->p.length=n->r.length=n->(∀j:Nat,-B<=p[j]?.getD 0/\p[j]?.getD 0<=B)->(∀j:Nat,-B<=r[j]?.getD 0/\r[j]?.getD 0<=B)->(e c p r).length=n/\∀j:Nat,-(2*(B*B))<=(e c p r)[j]?.getD 0/\(e c p r)[j]?.getD 0<=2*(B*B)
theorem pr:Vt bZ:=fun B n c p r I hp hr h1 h2=>⟨by rw[xE,hr],fun j=>RX I h1 h2 j⟩
theorem ug:Vt zG:=fun B n c p r hB hp hr h1 h2=>⟨by rw[eK,hr],fun j=>sZ h1 h2 j⟩
theorem iO{e:Nat->j7->j7->j7}(he:Vt e){n:Nat}{M:j5}(h:Good n 1 M):∀c,c<=5->(runM e M c).2<=c/\(runM e M c).1.length=M.length/\(runM e M c).2<=M.length/\Good n (J3 (runM e M c).2) (runM e M c).1
 | 0,_=>⟨ao _,rfl,KJ _,h⟩
 | c+1,hc=>by
   obtain⟨h1,h2,h3,h4⟩:=iO he h c e7
   show(Co e c (runM e M c)).2<=c+1/\(Co e c (runM e M c)).1.length=M.length/\(Co e c (runM e M c)).2<=M.length/\Good n (J3 (Co e c (runM e M c)).2) (Co e c (runM e M c)).1;unfold Co;generalize runM e M c=s at *
   split
   ·next hp =>
    have hb:=gw s.2 e7;have DX:=(eD hp).1;refine⟨by simp only;omega,by simp only[dN,dh];exact h2,by simp only;omega,?_⟩;refine mY (iV h4 e7 hp) hb.2.2 (by rw[dh];omega) fun p r En Gz h5 h6=>he _ n c p r hb.1 En Gz h5 h6
   ·exact⟨by omega,h2,h3,h4⟩
def Hh(n:Nat)(a b:j7):Prop:=∃u v:Int,u≠0/\v≠0/\∀j,j<n->u*a[j]?.getD 0=v*b[j]?.getD 0
theorem Hh.refl(n:Nat)(a:j7):Hh n a a:=⟨1,1,by omega,by omega,fun _ _=>rfl⟩
theorem Hh.zero{a b:j7}(h:Hh n a b)(hj:j<n):a[j]?.getD 0=0↔b[j]?.getD 0=0:=by
 obtain⟨u,v,hu,hv,h⟩:=h;have:=h j hj;constructor
 ·intro e;rw[e,Int.mul_zero]at this
  rcases Int.mul_eq_zero.1 this.symm with h|h
  ·exact absurd h hv
  ·exact h
 ·intro e;rw[e,Int.mul_zero]at this
  rcases Int.mul_eq_zero.1 this with h|h
  ·exact absurd h hu
  ·exact h
theorem O7(l:j7):∀(g:Int),(l.foldl gI g)∣g/\∀x∈l,(l.foldl gI g)∣x:=by
 induction l with
 | nil=>intro g;exact⟨Int.dvd_refl _,fun x hx=>absurd hx e8⟩
 | cons a l ih =>
   intro g;obtain⟨h1,h2⟩:=ih (gI g a);refine⟨Int.dvd_trans h1 (pE g a),fun x hx=>?_⟩
   rcases aaL.1 hx with rfl|hx
   ·exact Int.dvd_trans h1 (lO g x)
   ·exact h2 x hx
theorem uw(l:j7):∀g:Int,0<=g->0<=l.foldl gI g:=by
 induction l with
 | nil=>exact fun g h=>h
 | cons a l ih=>exact fun g h=>ih _ (qr g a)
theorem yW{x:Int}(hx:x∈l):x.tdiv (max (Da l) 1)*max (Da l) 1=x:=by
 have h1:=(O7 l 0).2 x hx;have h0:=uw l 0 (Int.le_refl _);change Da l∣x at h1;change 0<=Da l at h0;by_cases hg:Da l=0
 ·rw[hg]at h1⊢;have:x=0:=Int.zero_dvd.1 h1;subst this;simp
 ·rw[show max (Da l) 1=Da l by omega];exact Int.tdiv_mul_cancel h1
theorem MY{p q s:j7}(hc:c<n)(hr:r.length=n)(hs:s.length=n)(h:Hh n p q)(k:Hh n r s)(hp:p[c]?.getD 0≠0):Hh n (bZ c p r) (zG c q s):=by
 have hq:q[c]?.getD 0≠0:=fun e=>hp ((h.zero hc).2 e)
 have hz:=k.zero hc;obtain⟨I,K,O,J,h⟩:=h;obtain⟨u,v,hu,hv,k⟩:=k;unfold bZ
 split
 ·next h0 =>
  have s0:=hz.1 h0;refine⟨u*q[c]?.getD 0,v,aba hu hq,hv,fun j hj=>?_⟩;rw[iN e7,s0];have:=k j hj
  grind
 ·refine⟨u*I*max (Da (zG c p r)) 1,v*K,aba (aba hu O) e7,aba hv J,fun j hj=>?_⟩;have hj':j<(zG c p r).length:=by rw[eK];omega
  have e1:((zG c p r).map fun x=>x.tdiv (max (Da (zG c p r)) 1))[j]?.getD 0=((zG c p r)[j]?.getD 0).tdiv (max (Da (zG c p r)) 1):=by simp[hj']
  have e2:=yW (l:=zG c p r) (x:=(zG c p r)[j]?.getD 0) (by rw[bk hj'];simp);rw[e1,iN (show j<s.length by omega)];have e3:=iN (c:=c) (p:=p) (r:=r) (j:=j) e7;generalize((zG c p r)[j]?.getD 0).tdiv (max (Da (zG c p r)) 1)=z at *;generalize max (Da (zG c p r)) 1=G at *;have k1:=k j hj;have k2:=k c hc;have h1:=h j hj;have h2:=h c hc;rw[e3]at e2;generalize r[j]?.getD 0=rj at *;generalize r[c]?.getD 0=rc at *;generalize s[j]?.getD 0=sj at *;generalize s[c]?.getD 0=sc at *;generalize p[j]?.getD 0=pj at *;generalize p[c]?.getD 0=pc at *;generalize q[j]?.getD 0=qj at *;generalize q[c]?.getD 0=qc at *;have a1:u*I*G*z=u*I*(rj*pc-rc*pj):=by rw[<-e2];grind
  rw[a1];have a2:u*I*(rj*pc-rc*pj)=(u*rj)*(I*pc)-(u*rc)*(I*pj):=by grind
  rw[a2,k1,k2,h1,h2]
  grind
structure Vu(n:Nat)(M K:j5):Prop where
 len:M.length=K.length
 row:∀i,i<M.length->Hh n (M[i]?.getD []) (K[i]?.getD [])
theorem QR{K:j5}(hc:c<n)(hd:d<=M.length)(h:Vu n M K):AH M c d=AH K c d:=by
 by_cases hp:AH M c d<M.length
 ·obtain⟨h1,h2,h3⟩:=eD hp;refine(Q2 h1 (by rw[<-h.len];exact hp) (fun e=>h2 (((h.row _ hp).zero hc).2 e)) fun i hi RG=>((h.row i e7).zero hc).1 (h3 i hi RG)).symm
 ·obtain⟨h1,h2⟩:=ik hp hd;rw[h1,h.len];exact(Nr (by rw[<-h.len];exact hd) fun i hi RG=>((h.row i (by rw[h.len];exact RG)).zero hc).1 (h2 i hi (by rw[h.len];exact RG))).symm
theorem vC{n:Nat}{M:j5}(h:Good n 1 M)(hn:n<=5):∀c,c<=n->Vu n (runM bZ M c).1 (runM zG M c).1/\(runM bZ M c).2=(runM zG M c).2
 | 0,_=>⟨⟨rfl,fun i _=>Hh.refl _ _⟩,rfl⟩
 | c+1,hc=>by
   obtain⟨h1,h2⟩:=vC h hn c e7;obtain⟨a1,a2,a3,a4⟩:=iO pr h c e7;obtain⟨b1,b2,b3,O⟩:=iO ug h c e7
   show Vu n (Co bZ c (runM bZ M c)).1 (Co zG c (runM zG M c)).1/\(Co bZ c (runM bZ M c)).2=(Co zG c (runM zG M c)).2;generalize runM bZ M c=s at *;generalize runM zG M c=t at *;obtain⟨S,d⟩:=s;obtain⟨T,d'⟩:=t;simp only at *;subst h2;have Q:=QR (show c<n by omega) (show d<=S.length by omega) h1;unfold Co;simp only;rw[<-Q];by_cases hp:AH S c d<S.length
   ·rw[hI hp,hI (by rw[<-h1.len];exact hp)];obtain⟨p1,p2,p3⟩:=eD hp;have hlen:=h1.len;have J:d<S.length:=by omega
    refine⟨⟨by simp[dN,dh,hlen],fun i hi=>?_⟩,rfl⟩;rw[dN,dh]at hi;have K:∀i,i<S.length->Hh n ((swp S d (AH S c d))[i]?.getD []) ((swp T d (AH S c d))[i]?.getD []):=by
     intro i hi;have e1:=jn J hp i;have e2:=jn (l:=T) (show d<T.length by omega) (show AH S c d<T.length by omega) i;change(swp S d (AH S c d))[i]?.getD []=_ at e1;change(swp T d (AH S c d))[i]?.getD []=_ at e2;rw[e1,e2]
     split
     ·exact h1.row d J
     ·split
      ·exact h1.row _ hp
      ·exact h1.row i hi
    rw[gU _ _ _ _ _ (by rw[dh];exact hi),gU _ _ _ _ _ (by rw[dh];omega),<-hlen]
    split
    ·next S8 =>
     have g1:=iV a4 J hp;have g2:=iV O (show d<T.length by omega) (show AH S c d<T.length by omega);refine MY e7 (g1 i (by rw[dh];exact hi)).1 (g2 i (by rw[dh];omega)).1 (K d J) (K i hi) ?_;have e1:=jn J hp d;change(swp S d (AH S c d))[d]?.getD []=_ at e1;rw[e1];by_cases I:d=AH S c d
     ·rw[hI I];rw[<-I]at p2;exact p2
     ·rw[hD I,hI rfl];exact p2
    ·exact K i hi
   ·rw[hD hp,hD (by rw[<-h1.len];exact hp)];exact⟨h1,rfl⟩
def BN(n:Nat)(s:Int):j7:=(List.range n).map fun(k:Nat)=>zA (BC s (k:Int))
theorem ke(n:Nat)(s:Int):(BN n s).length=n:=by simp[BN]
theorem ql(n:Nat)(s:Int):BN n s++[zA (BC s (n:Int))]=BN (n+1) s:=by simp[BN,TP]
theorem kg(n:Nat)(l:j7):Good n 1 (l.map (BN n)):=by
 intro i hi;have C7:i<l.length:=by simpa using hi
 have e:(l.map (BN n))[i]?.getD []=BN n (l[i]):=by simp[C7]
 rw[e];refine⟨ke _ _,fun j=>?_⟩;by_cases hj:j<n
 ·simp only[BN,MD,aak hj,Tc,l'];unfold zA;split<;>omega
 ·rw[G4 (by rw[ke];omega)];simp
def fp(n:Int)(l:j7):Int:=if r9 n 1 5=true then((runM bZ (l.map (BN n.toNat)) n.toNat).2:Int) else 0
def iF(n:Int)(l:j7):Int:=if r9 n 1 5=true then((runM zG (l.map (BN n.toNat)) n.toNat).2:Int) else 0
theorem yr(n:Int)(l:j7):fp n l=iF n l:=by
 unfold fp iF
 split
 ·next h =>
  simp only[r9,xf,sw]at h;rw[(vC (kg n.toNat l) e7 n.toNat (ao _)).2]
 ·rfl
structure Cy(w:World)(base:Nat)(a:j6)(N cap:Nat)(vs:List Value)(M:j5):Prop where
 own:zC w base (.slice a N cap) vs
 rows:bL w base vs M
theorem Cy.BW{cap:Nat}(h:Cy w base a N cap vs M):vs.length=N:=h.own.len
theorem Cy.len{cap:Nat}(h:Cy w base a N cap vs M):M.length=N:=by rw[<-h.rows.len];exact h.own.len
theorem Cy.cap{w:World}{base:Nat}{a:j6}{N cap:Nat}{vs:List Value}{M:j5}(h:Cy w base a N cap vs M):N<=cap/\cap<=9223372036854775807:=by
 obtain⟨a',c',he,h1,h2⟩:=h.own.form;simp only[C']at he;obtain⟨_,h3,rfl⟩:=he;exact⟨by omega,h2⟩
theorem Cy.ext{w':World}{cap:Nat}(h:Cy w base a N cap vs M)(hx:Ext w w'):Cy w' base a N cap vs M:=⟨h.own.ext hx,h.rows.ext hx⟩
theorem Cy.Hs{cap:Nat}(h:Cy w base a N cap vs M):cH w a N cap M :=
 dt.Hs ⟨vs,h.own,h.rows⟩
theorem Cy.outer{cap:Nat}(h:Cy w base a N cap vs M)(hN:0<N):∃G,a=some ⟨G,0,none⟩/\base<=G/\G<w.heap.size/\∀j,w.frozen? ⟨G,j,none⟩=false:=by
 rcases h.own.2 with⟨he,h0⟩|⟨g,cap',cur,he,hb,hg,_⟩
 ·simp only[C']at he;omega
 ·simp only[C']at he;obtain⟨rfl,_⟩:=he;exact⟨g,rfl,hb,mr hg,fun j=>sd w g j cur _ hg⟩
theorem Cy.row{cap:Nat}(h:Cy w base (some ⟨G,0,none⟩) N cap vs M)(hi:i<N)(hn:(M[i]?.getD []).length=n)(h1:1<=n):
 ∃g c,vs[i]?.getD undef=.slice (some ⟨g,0,none⟩) n c/\w.cell? ⟨G,i,none⟩=some (.slice (some ⟨g,0,none⟩) n c)/\o4 w base (.slice (some ⟨g,0,none⟩) n c) (M[i]?.getD [])/\g≠G/\base<=g/\g<w.heap.size/\n<=c/\c<=9223372036854775807:=by
 have hr:=h.rows.row i (by rw[h.len];exact hi);obtain⟨a',c,he,Ba,K⟩:=hr.form;rw[he]at hr;rw[hn]at he hr Ba;obtain⟨g,rfl,hb,_,J⟩:=hr.block (k:=0) e7;obtain⟨G',I,_,hc⟩:=h.own.cell hi;simp only[bA,mq,zz]at I;subst I;refine⟨g,c,he,?_,hr,fun e=>hr.apart h.own g rfl (by subst e;rfl),hb,J,Ba,K⟩;rw[hc i hi,<-he];have:i<vs.length:=by rw[h.BW];exact hi
 simp[this]
theorem Cy.FZ{cap:Nat}(h:Cy w base (some ⟨G,0,none⟩) N cap vs M){g:Nat}(hi:i<N)(hv:vs[i]?.getD undef=.slice (some ⟨g,0,none⟩) n c)(j:Nat)(x:Int):
 Cy (w.setCell ⟨g,j,none⟩ (.int .i64 x)) base (some ⟨G,0,none⟩) N cap vs (M.set i ((M[i]?.getD []).set j x)):=by
 have DI:i<M.length:=by rw[h.len];exact hi
 have hr:=h.rows.row i DI;rw[hv]at hr;have hgG:g≠G:=fun e=>hr.apart h.own g rfl (by subst e;rfl)
 refine⟨h.own.keep fun k hk=>bB _ _ _ _ (by simp only[Value.ownBlock,bA]at hk;show k≠g;omega),?_⟩;refine⟨by rw[H4];exact h.rows.len,fun k hk=>?_,fun a b k OT hb=>h.rows.apart a b k OT (by rw[H4]at hb;exact hb)⟩;rw[H4]at hk;by_cases CX:k=i
 ·subst CX;rw[hv,H3 DI];exact hr.set j x
 ·rw[DZ (aax CX)];refine(h.rows.row k hk).keep fun b hb=>bB _ _ _ _ fun e=>?_
  subst e
  rcases acY CX with hlt|hlt
  ·exact h.rows.apart k i _ hlt DI hb (by rw[hv];rfl)
  ·exact h.rows.apart i k _ hlt hk (by rw[hv];rfl) hb
theorem Cy.put{w0:World}{cap:Nat}(h:Cy w0 base (some ⟨G,0,none⟩) N cap vs M)(hx:Ext w0 w)(hb:base<=w0.heap.size){v:Value}(ho:o4 w w0.heap.size v l)(hi:i<N):
 Cy (w.setCell ⟨G,i,none⟩ v) base (some ⟨G,0,none⟩) N cap (vs.set i v) (M.set i l):=by
 have DI:i<M.length:=by rw[h.len];exact hi
 have SR:i<vs.length:=by rw[h.BW];exact hi
 have hW:=h.ext hx;obtain⟨G',J,Gf,LH,_⟩:=h.outer e7;simp only[bA,mq,zz]at J;subst J;have D6:∀k,k≠G->(w.setCell ⟨G,i,none⟩ v).heap[k]?=w.heap[k]?:=fun k hk=>bB _ _ _ _ hk
 refine⟨?_,⟨by rw[H4,H4];exact h.rows.len,fun k hk=>?_,fun a b k OT AD hk k7=>?_⟩⟩
 ·have ho:=hW.own;unfold zC at ho;rw[hW.BW]at ho;have:=(aaH ho i v).1;unfold zC;rw[H4,hW.BW];exact this
 ·rw[H4]at hk;by_cases CX:k=i
  ·subst CX;rw[H3 SR,H3 DI];exact(ho.keep fun b K2=>D6 b (j1 ((ho.lt b K2).1))).mono hb
  ·rw[DZ (aax CX),DZ (aax CX)];refine(hW.rows.row k hk).keep fun b K2=>D6 b fun e=>?_
   subst e;exact(hW.rows.row k hk).apart hW.own _ K2 rfl
 ·rw[H4]at AD;by_cases I:a=i
  ·subst I;rw[H3 SR]at hk;rw[DZ e7]at k7;have h1:=(ho.lt k hk).1;have h2:=((h.rows.row b AD).lt k k7).2;omega
  ·rw[DZ (aax I)]at hk;by_cases K:b=i
   ·subst K;rw[H3 SR]at k7;have h1:=(ho.lt k k7).1;have h2:=((h.rows.row a e7).lt k hk).2;omega
   ·rw[DZ (aax K)]at k7;exact h.rows.apart a b k OT AD hk k7
def Kb(l:List Value)(a b:Nat):List Value:=(l.set a (l[b]?.getD undef)).set b (l[a]?.getD undef)
theorem ue(l:List Value)(a b:Nat):(Kb l a b).length=l.length:=by simp[Kb]
theorem jT{l:List Value}{a:Nat}(ha:a<l.length)(hb:b<l.length)(i:Nat):(Kb l a b)[i]?.getD undef=if i=b then l[a]?.getD undef else if i=a then l[b]?.getD undef else l[i]?.getD undef:=by
 unfold Kb;by_cases h1:i=b
 ·subst h1;rw[hI rfl,H3 (by simp[hb])];rfl
 ·rw[hD h1,DZ (aax h1)];by_cases h2:i=a
  ·subst h2;rw[hI rfl,H3 ha];rfl
  ·rw[hD h2,DZ (aax h2)]
theorem bL.apart'(h:bL w base vs L)(I:i≠j)(hi:i<L.length)(hj:j<L.length)(hk:(vs[i]?.getD undef).ownBlock=some k):(vs[j]?.getD undef).ownBlock≠some k:=by
 rcases acY I with h1|h1
 ·exact h.apart i j k h1 hj hk
 ·exact fun e=>h.apart j i k h1 hi e hk
theorem Cy.swap{cap:Nat}(h:Cy w base (some ⟨G,0,none⟩) N cap vs M){a:Nat}(ha:a<N)(hb:b<N):
 Cy ((w.setCell ⟨G,a,none⟩ (vs[b]?.getD undef)).setCell ⟨G,b,none⟩ (vs[a]?.getD undef)) base (some ⟨G,0,none⟩) N cap (Kb vs a b) (swp M a b):=by
 have hal:a<M.length:=by rw[h.len];exact ha
 have JE:b<M.length:=by rw[h.len];exact hb
 have Uh:a<vs.length:=by rw[h.BW];exact ha
 have A4:b<vs.length:=by rw[h.BW];exact hb
 have o8:∀i,i<M.length->(swp M a b)[i]?.getD []=if i=b then M[a]?.getD [] else if i=a then M[b]?.getD [] else M[i]?.getD []:=fun i _=>jn hal JE i
 have D6:∀k,k≠G->((w.setCell ⟨G,a,none⟩ (vs[b]?.getD undef)).setCell ⟨G,b,none⟩ (vs[a]?.getD undef)).heap[k]?=w.heap[k]?:=fun k hk=>by rw[bB _ _ _ _ hk,bB _ _ _ _ hk]
 refine⟨?_,⟨by rw[ue,dh];exact h.rows.len,fun i hi=>?_,fun i j k LB hj hk k7=>?_⟩⟩
 ·have ho:=h.own;unfold zC at ho;rw[h.BW]at ho;have h1:=(aaH ho a (vs[b]?.getD undef)).1;have h2:=(aaH h1 b (vs[a]?.getD undef)).1;unfold zC;rw[ue,h.BW];exact h2
 ·rw[dh]at hi;have key:∀k,k<M.length->o4 ((w.setCell ⟨G,a,none⟩ (vs[b]?.getD undef)).setCell ⟨G,b,none⟩ (vs[a]?.getD undef)) base (vs[k]?.getD undef) (M[k]?.getD []):=fun k hk =>
   (h.rows.row k hk).keep fun c hc=>D6 c fun e=>by subst e;exact(h.rows.row k hk).apart h.own _ hc rfl
  rw[jT Uh A4,o8 i hi]
  split
  ·exact key a hal
  ·split
   ·exact key b JE
   ·exact key i hi
 ·rw[dh]at hj;rw[jT Uh A4]at hk k7;have hi:i<M.length:=by omega
  have pick:∀i,i<M.length->∃s,s<M.length/\(if i=b then vs[a]?.getD undef else if i=a then vs[b]?.getD undef else vs[i]?.getD undef)=vs[s]?.getD undef/\s=(if i=b then a else if i=a then b else i):=fun i hi=>by
   split
   ·exact⟨a,hal,rfl,rfl⟩
   ·split
    ·exact⟨b,JE,rfl,rfl⟩
    ·exact⟨i,hi,rfl,rfl⟩
  obtain⟨s,hs,e1,J⟩:=pick i hi;obtain⟨t,ht,e2,I⟩:=pick j hj;rw[e1]at hk;rw[e2]at k7;refine h.rows.apart' (i:=s) (j:=t) ?_ hs ht hk k7;rw[J,I]
  split<;>split<;>(try split)<;>(try split)<;>omega
theorem bL.Gi{w':World}{base':Nat}{v:Value}(h:bL w base vs L){us:List Value}(hv:zC w base' v us)(hg:w.grownBy w' v.ownBlock):bL w' base vs L :=
 h.keep fun i k hi hk=>hg.block k ((h.row i hi).lt k hk).2 fun e=>(h.row i hi).apart hv k hk e.symm
theorem cH.at'{cap:Nat}(h:cH w (some ⟨G,0,none⟩) N cap L)(hk:k<N):
 ∃a m c,w.cell? ⟨G,k,none⟩=some (.slice a m c)/\Ints w a m c (L[k]?.getD []):=by
 obtain⟨b,off,a,m,c,he,hc,hr⟩:=h.at hk;simp only[bA,mq,zz]at he;obtain⟨rfl,rfl⟩:=he;rw[Mf]at hc;exact⟨a,m,c,hc,hr⟩
theorem cH.Vj{cap:Nat}(h:cH w (some ⟨G,0,none⟩) N cap L)(hd:d<=N):cH w (if cap=d then some ⟨G,0,none⟩ else some ⟨G,d,none⟩) (N-d) (cap-d) (L.drop d):=by
 refine⟨by rw[aaj,h.hlen],by have:=h.l8;omega,by have:=h.l9;omega,fun k hk=>?_⟩;have hc:¬cap=d:=by have:=h.l8;omega
 rw[hD hc];refine⟨G,d,rfl,fun k hk=>?_⟩;obtain⟨a,m,c,h1,h2⟩:=h.at' (k:=d+k) e7;refine⟨a,m,c,h1,?_⟩;rw[aaS];exact h2
