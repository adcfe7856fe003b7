import Derived.Test.YtdadoignenffgaaGreatDoorEbAllG1
import Derived.Test.YtdadoignenffgaaGreatDoorEbAllG6
import Derived.Test.YtdadoignenffgaaGreatDoorEbAllG3
import Derived.Deep.RegionLaw
import Derived.Deep.RegionHeld3
set_option linter.unusedVariables false
set_option linter.unusedSimpArgs false
namespace Go.Proofs.YtdadoignenffgaaGreatDoor
variable{w:World}{a:j6}{n s left:Nat}{x y sum:Int}{G:j5}
set_option maxHeartbeats 16000000
open Go.RowKit
abbrev gP(x y:Int)(a:j6)(n cap:Nat):Value:=.agg #[.int .i64 x,.int .i64 y,.slice a n cap]
def cq(s b:Int)(L:j5):Bool :=
 (decide (1<=s)&&decide (s<=5)&&decide (1<=b)&&decide (b<=5-s)&&decide ((L.length:Int)=s))&&L.all (fun r=>r.all (r9 · 0 100)&&decide ((r.length:Int)=b))
theorem ld:IsGo Tryz.prog 207:=isGo Tryz.func207 e9 e9
theorem mh:IsGo Tryz.prog 206:=isGo aeK e9 e9
theorem mp(x:Int)(w:World):Calls Tryz.prog 207 #[.int .i64 x] w fun e w'=>e=.returned (.bool (!r9 x 0 100))/\w=w':=by
 go_enter Tryz.func207,Tryz.ntmps207
 go_wp2_with (first|(go_at_call 61;refine(aq _ _ _ _).mono ?_;rintro e w' ⟨rfl,rfl⟩));go_ret;exact⟨rfl,rfl⟩
theorem jW(w:World):FJ Tryz.prog w 207 #[] (fun x=>!r9 x 0 100) :=
 fun x w1 _=>(mp x w1).mono fun e w' ⟨he,hw⟩=>⟨he,hw▸Ext.refl _⟩
def fc(b:Int)(r:j7):Bool:=!decide ((r.length:Int)=b)||r.any (fun x=>!r9 x 0 100)
theorem ni{m:Nat}{b:Int}{cap:Nat}{l:j7}(hb:w.cell? ⟨m,1,none⟩=some (.int .i64 b))(h:Ints w a n cap l):
 Calls Tryz.prog 206 #[.slice a n cap,.pointer (some ⟨m,0,none⟩)] w fun e w'=>e=.returned (.bool (fc b l))/\Ext w w':=by
 have hne:((n:Int) != b)=!decide ((n:Int)=b):=by by_cases h:(n:Int)=b<;>simp[h]
 have HC:=ae (de h ld (jW _));have HL:=ae h.hlen;cases hd:decide ((n:Int)=b)
 ·rw[hd]at hne;have HD:=ae hd;clear hd;go_enter aeK,Tryz.ntmps206
  go_wp2_with fail;go_ret;refine⟨ag ?_,Ext.refl _⟩;unfold fc;rw[HL.o,HD.o];simp
 ·rw[hd]at hne;have HD:=ae hd;clear hd;go_enter aeK,Tryz.ntmps206
  go_wp2_with fail;refine HC.o.mono ?_;rintro e w1 ⟨rfl,hx⟩
  go_wp2
  go_ret;refine⟨ag ?_,hx⟩;unfold fc;rw[HL.o,HD.o];simp
theorem iJ(s b:Int)(L:j5):cq s b L=((decide (1<=s)&&decide (s<=5)&&decide (1<=b)&&decide (b<=5-s)&&decide ((L.length:Int)=s))&&!L.any (fc b)):=by
 unfold cq fc
 congr 1
 rw[aaw]
 congr 1
 funext r
 rw[Bool.not_or,Bool.not_not,aaw,ad3];simp
theorem jy{cap:Nat}{L:j5}(h:cH w a n cap L):
 Calls Tryz.prog 144 #[gP x y a n cap] w fun e w'=>e=.returned (.bool (cq x y L))/\Ext w w':=by
 have h1:=h.alloc (.cells #[.int .i64 x,.int .i64 y,.slice a n cap] 99);have HX:=ae (Ext.alloc w (.cells #[.int .i64 x,.int .i64 y,.slice a n cap] 99));have HL:=ae h.hlen;have HC:=ae (kP (ca:=#[.pointer (some ⟨w.heap.size,0,none⟩)]) (p:=fc y) h1 mh (fun l a n c w1 hx hi=>ni (hx.j9 e8) hi));clear h h1;by_cases Ap:1<=x/\x<=5/\1<=y/\y<=5-x/\(n:Int)=x
 ·obtain⟨p1,p2,p3,J,I⟩:=Ap;have hne:((n:Int) != x)=false:=by simp[I]
  have HP:=ae I;clear I;go_enter ab9,abS
  go_wp2_with fail;refine HC.o.mono ?_;rintro e w1 ⟨rfl,hx⟩
  go_wp2
  go_ret;refine⟨ag ?_,HX.o.trans hx⟩;rw[iJ,HL.o];have:=HP.o;simp[p1,p2,p3,J,this]
 ·have HN:=ae (show cq x y L=false by unfold cq;rw[HL.o];simp only[aaR,aay];omega);have K:x<1∨y<1∨5<x∨5-x<y∨((n:Int)≠x):=by omega
  have hgo:Calls Tryz.prog 144 #[gP x y a n cap] w fun e w'=>e=.returned (.bool false)/\Ext w w':=by
   by_cases q1:x<1
   ·go_enter ab9,abS
    go_wp2_with fail;go_ret;exact⟨rfl,HX.o⟩
   by_cases q2:y<1
   ·go_enter ab9,abS
    go_wp2_with fail;go_ret;exact⟨rfl,HX.o⟩
   by_cases q3:5<x
   ·go_enter ab9,abS
    go_wp2_with fail;go_ret;exact⟨rfl,HX.o⟩
   by_cases q4:5-x<y
   ·go_enter ab9,abS
    go_wp2_with fail;go_ret;exact⟨rfl,HX.o⟩
   have hne:((n:Int) != x)=true:=by simp;omega
   clear K Ap;go_enter ab9,abS
   go_wp2_with fail;go_ret;exact⟨rfl,HX.o⟩
  rw[HN.o];exact hgo
def iM(b:Int)(r:j7):Bool:=fs r 100&&decide ((r.length:Int)=b)
theorem mw{b:Int}(h1:1<=b)(h5:b<=5)(r:j7):iM b r=!fc b r:=by
 unfold iM fc;rw[io];by_cases h:(r.length:Int)=b
 ·have hi:r9 r.length 1 5=true:=by unfold r9;simp;omega
  rw[hi,z' h];simp
 ·rw[u' h];simp
theorem pf{cap:Nat}{L:j5}(h:cH w a n cap L):
 Calls Tryz.prog 158 #[gP x y a n cap] w fun e w'=>e=.returned (.bool (cq x y L))/\Ext w w':=by
 have h1:=h.alloc (.cells #[.int .i64 x,.int .i64 y,.slice a n cap] 99);have HX:=ae (Ext.alloc w (.cells #[.int .i64 x,.int .i64 y,.slice a n cap] 99));have HL:=ae h.hlen;have l8:=h.l8;have l9:=h.l9;clear h;cases q1:r9 x 1 5
 ·have HN:=ae (show cq x y L=false by unfold cq r9 at *;simp only[aaR,aay]at q1⊢;omega);rw[HN.o];go_enter adA,adb
  go_wp2_with (first|(go_at_call 45;refine(aZ _ _ _ _).mono ?_;rintro e w' ⟨rfl,rfl⟩));go_ret;exact⟨rfl,HX.o⟩
 have p1:1<=x/\x<=5:=by unfold r9 at q1;simpa using q1
 obtain⟨p1,p2⟩:=p1;cases q2:r9 y 1 (5-x)
 ·have HN:=ae (show cq x y L=false by unfold cq r9 at *;simp only[aaR,aay]at q2⊢;omega);rw[HN.o];go_enter adA,adb
  go_wp2_with (first|(go_at_call 45;refine(aZ _ _ _ _).mono ?_;rintro e w' ⟨rfl,rfl⟩));go_ret;exact⟨rfl,HX.o⟩
 have p3:1<=y/\y<=5-x:=by unfold r9 at q2;simpa using q2
 obtain⟨p3,O⟩:=p3;by_cases q3:(n:Int)=x
 ·have hne:((n:Int) != x)=false:=by simp[q3]
  have HP:=ae q3;clear q3;go_enter adA,adb
  go_wp2_with (first|(go_at_call 45;refine(aZ _ _ _ _).mono ?_;rintro e w' ⟨rfl,rfl⟩))
  go_loopw [3] (fun i wr=>∃k:Nat,k<=n/\i=.int .i64 k/\b7 ((L.take k).all (iM y)=true)/\Bj (w.alloc (.cells #[.int .i64 x,.int .i64 y,.slice a n cap] 99)) wr) (fun i _=>n-(intOf i).toNat)
  case atStart=>exact⟨0,KJ _,rfl,ae rfl,Bj.refl _⟩
  case round =>
   obtain⟨k,hk,rfl,HA,hx⟩:=hrel;have c1:wr.cell? ⟨w.heap.size,1,none⟩=some (.int .i64 y):=hx.ext.j9 e8;have c2:wr.cell? ⟨w.heap.size,2,none⟩=some (.slice a n cap):=hx.ext.j9 e8;have I:=ae (HX.o.trans hx.ext);have K:=ae hx;by_cases hlt:k<n
   ·obtain⟨b,off,a',J,c',rfl,hc,hr⟩:=(h1.ext hx.ext).at hlt;have hq:=fun j=>aU (kx 100 (hr.drewN j))
    have HR:=ae hr.hlen;clear hr hx;have HQ:=ae hq;clear hq;cases hs:fs (L[k]?.getD []) 100
    ·have HS:=ae hs;rw[hs]at HQ;clear hs
     go_wp2
     go_quiet ((go_at_call 212;exact HQ.o _))
     go_wp2
     go_ret;refine⟨ag ?_,aac I.o _⟩
     symm
     rw[iJ];have Ci:k<L.length:=by have:=HL.o;omega
     have:L.any (fc y)=true:=by
      rw[abp];refine⟨L[k],vl Ci,?_⟩;have h2:=mw p3 e7 L[k];have h3:iM y L[k]=false:=by unfold iM;have:=HS.o;simp only[Ci,bk,l']at this;rw[this];rfl
      rw[h3]at h2
      simpa using h2.symm
     rw[this];simp
    ·have HS:=ae hs;rw[hs]at HQ;clear hs;by_cases hb:(J:Int)=y
     ·have hne:((J:Int) != y)=false:=by simp[hb]
      have HB:=ae hb;clear hb
      go_wp2
      go_quiet ((go_at_call 212;exact HQ.o _))
      go_wp2
      go_roundw
      case rel=>exact⟨k+1,by omega,by go_num,ae (by rw[eF (j1 HL.o),RN,HA.o];simp[iM,HS.o,HR.o,HB.o]),K.o.trans ⟨_,rfl⟩⟩
      case measure=>simp[intOf];omega
     ·have hne:((J:Int) != y)=true:=by simp[hb]
      have HB:=ae hb;clear hb
      go_wp2
      go_quiet ((go_at_call 212;exact HQ.o _))
      go_wp2
      go_ret;refine⟨ag ?_,aac I.o _⟩
      symm
      rw[iJ];have Ci:k<L.length:=by have:=HL.o;omega
      have:L.any (fc y)=true:=by
       rw[abp];refine⟨L[k],vl Ci,?_⟩;have:=HR.o;simp only[Ci,bk,l']at this;unfold fc;rw[this,u' HB.o];rfl
      rw[this];simp
   ·clear hx
    go_wp2
    go_ret;refine⟨ag ?_,I.o⟩
    symm
    have:=HA.o;rw[p4 (j1 HL.o)]at this;rw[iJ,HL.o];have h2:L.any (fc y)=false:=by
     rw[List.any_eq_false];intro r hr;have h3:=Di.1 this r hr;rw[mw p3 e7]at h3
     simpa using h3
    rw[h2];have hp:=HP.o;simp[p1,p2,p3,O,hp]
 ·have hne:((n:Int) != x)=true:=by simp[q3]
  have HN:=ae (show cq x y L=false by unfold cq;rw[HL.o];simp only[aaR,aay];omega);rw[HN.o];clear q3;go_enter adA,adb
  go_wp2_with (first|(go_at_call 45;refine(aZ _ _ _ _).mono ?_;rintro e w' ⟨rfl,rfl⟩));go_ret;exact⟨rfl,HX.o⟩
theorem MP:∀s:Fin 32,∀k:Fin 5,bits .andNot .i64 ((s.val:Nat):Int) (2^k.val)=(if bit ((s.val:Nat):Int) k.val then((s.val-2^k.val:Nat):Int) else((s.val:Nat):Int)):=by decide +kernel
theorem tcut{k:Nat}(hs:s<32)(hk:k<5)(h:bit (s:Int) k=true):bits .andNot .i64 (s:Int) (2^k)=((s-2^k:Nat):Int):=by
 have:=MP ⟨s,hs⟩ ⟨k,hk⟩;simp only[h,abk]at this;exact this
theorem uh:∀s:Fin 32,∀k:Fin 5,∀j:Fin 5,bit ((s.val:Nat):Int) k.val=true->bit ((s.val-2^k.val:Nat):Int) j.val=(bit ((s.val:Nat):Int) j.val&&!decide (j.val=k.val)):=by decide +kernel
theorem MQ{k j:Nat}(hs:s<32)(hk:k<5)(hj:j<5)(h:bit (s:Int) k=true):bit ((s-2^k:Nat):Int) j=(bit (s:Int) j&&!decide (j=k)):=uh ⟨s,hs⟩ ⟨k,hk⟩ ⟨j,hj⟩ h
section
variable(S B:Nat)(G:j5)(s:Nat)
def gain(i j:Nat):Int:=(G[i]?.getD [])[j]?.getD 0
def eW(taken:j7)(i j:Nat):Bool:=bit (s:Int) i&&(bit (s:Int) (S+j)&&!Iw taken (j:Int))
def bO:Nat->j7->j7×Int
 | 0,_=>([],0)
 | r+1,taken=>(List.range B).foldl (fun acc j=>if eW S s taken (S-(r+1)) j=true then(if(bO r (taken++[(j:Int)])).2+gain G (S-(r+1)) j > acc.2 then((j:Int)::(bO r (taken++[(j:Int)])).1,(bO r (taken++[(j:Int)])).2+gain G (S-(r+1)) j) else acc) else acc)
     (-1::(bO r taken).1,(bO r taken).2)
def cU(r:Nat)(taken:j7)(k:Nat):j7×Int :=
 (List.range k).foldl (fun acc j=>if eW S s taken (S-(r+1)) j=true then(if(bO S B G s r (taken++[(j:Int)])).2+gain G (S-(r+1)) j > acc.2 then((j:Int)::(bO S B G s r (taken++[(j:Int)])).1,(bO S B G s r (taken++[(j:Int)])).2+gain G (S-(r+1)) j) else acc) else acc)
   (-1::(bO S B G s r taken).1,(bO S B G s r taken).2)
theorem fE(r:Nat)(taken:j7):bO S B G s (r+1) taken=cU S B G s r taken B:=rfl
theorem fO(r:Nat)(taken:j7):cU S B G s r taken 0=(-1::(bO S B G s r taken).1,(bO S B G s r taken).2):=rfl
theorem cM(r:Nat)(taken:j7)(k:Nat):cU S B G s r taken (k+1)=if eW S s taken (S-(r+1)) k=true then(if(bO S B G s r (taken++[(k:Int)])).2+gain G (S-(r+1)) k > (cU S B G s r taken k).2 then((k:Int)::(bO S B G s r (taken++[(k:Int)])).1,(bO S B G s r (taken++[(k:Int)])).2+gain G (S-(r+1)) k) else cU S B G s r taken k) else cU S B G s r taken k:=by
 unfold cU;rw[TP,abB]
 rfl
theorem fz(I:∀i j,0<=gain G i j/\gain G i j<=100):∀(r:Nat) (taken:j7),(bO S B G s r taken).1.length=r/\0<=(bO S B G s r taken).2/\(bO S B G s r taken).2<=100*r
 | 0,_=>by simp[bO]
 | r+1,taken=>by
   rw[fE];have hb:∀k,(cU S B G s r taken k).1.length=r+1/\0<=(cU S B G s r taken k).2/\(cU S B G s r taken k).2<=100*(r+1:Nat):=by
    intro k
    induction k with
    | zero =>
      have:=fz I r taken;rw[fO];simp only[OX];omega
    | succ k ih =>
      rw[cM];have h1:=fz I r (taken++[(k:Int)]);have h2:=I (S-(r+1)) k
      split
      ·split
       ·simp only[OX];omega
       ·exact ih
      ·exact ih
   exact hb B
theorem xm(I:∀i j,0<=gain G i j/\gain G i j<=100)(r:Nat)(taken:j7)(k:Nat):(cU S B G s r taken k).1.length=r+1/\0<=(cU S B G s r taken k).2/\(cU S B G s r taken k).2<=100*(r+1:Nat):=by
 induction k with
 | zero =>
   have:=fz S B G s I r taken;rw[fO];simp only[OX];omega
 | succ k ih =>
   rw[cM];have h1:=fz S B G s I r (taken++[(k:Int)]);have h2:=I (S-(r+1)) k
   split
   ·split
    ·simp only[OX];omega
    ·exact ih
   ·exact ih
structure D9  where
 now:j7
 Df:j7
 most:Int
def dw:Nat->Nat->Int->D9->D9
 | 0,left,sum,st=>if sum > st.most then⟨st.now,st.now,sum⟩ else st
 | r+1,left,sum,st =>
   if bit (s:Int) (S-(r+1))=false then dw r left sum ⟨st.now.set (S-(r+1)) (-1),st.Df,st.most⟩
   else(List.range B).foldl (fun st j=>if bit (left:Int) (S+j)=true then dw r (left-2^(S+j)) (sum+gain G (S-(r+1)) j) ⟨st.now.set (S-(r+1)) (j:Int),st.Df,st.most⟩ else st)
    (dw r left sum ⟨st.now.set (S-(r+1)) (-1),st.Df,st.most⟩)
def fe(r left:Nat)(sum:Int)(st:D9)(k:Nat):D9 :=
 (List.range k).foldl (fun st j=>if bit (left:Int) (S+j)=true then dw S B G s r (left-2^(S+j)) (sum+gain G (S-(r+1)) j) ⟨st.now.set (S-(r+1)) (j:Int),st.Df,st.most⟩ else st)
   (dw S B G s r left sum ⟨st.now.set (S-(r+1)) (-1),st.Df,st.most⟩)
theorem rA{r left:Nat}{sum:Int}{st:D9}(h:bit (s:Int) (S-(r+1))=false):dw S B G s (r+1) left sum st=dw S B G s r left sum ⟨st.now.set (S-(r+1)) (-1),st.Df,st.most⟩:=by
 rw[dw,hI h]
theorem uk{r left:Nat}{sum:Int}{st:D9}(h:bit (s:Int) (S-(r+1))=true):dw S B G s (r+1) left sum st=fe S B G s r left sum st B:=by
 rw[dw,hD (by simp[h])];rfl
theorem mP(r left:Nat)(sum:Int)(st:D9):fe S B G s r left sum st 0=dw S B G s r left sum ⟨st.now.set (S-(r+1)) (-1),st.Df,st.most⟩:=rfl
theorem jJ(r left:Nat)(sum:Int)(st:D9)(k:Nat):fe S B G s r left sum st (k+1)=if bit (left:Int) (S+k)=true then dw S B G s r (left-2^(S+k)) (sum+gain G (S-(r+1)) k) ⟨(fe S B G s r left sum st k).now.set (S-(r+1)) (k:Int),(fe S B G s r left sum st k).Df,(fe S B G s r left sum st k).most⟩ else fe S B G s r left sum st k:=by
 simp only[fe,TP,abB,adG,List.foldl_nil]
def jr(i:Nat)(now:j7)(sum:Int)(st0:D9)(b:j7×Int)(out:D9):Prop :=
 out.now.length=S/\out.now.take i=now.take i/\((st0.most<sum+b.2/\out.Df=now.take i++b.1/\out.most=sum+b.2)∨(¬st0.most<sum+b.2/\out.Df=st0.Df/\out.most=st0.most))
theorem kJ{l:j7}{i:Nat}(x:Int)(h:i<l.length):(l.set i x).take (i+1)=l.take i++[x]:=by
 rw[List.take_set,Kn h,abF _ _ (by simp;omega)]
 congr 1
 have:i-(l.take i).length=0:=by simp;omega
 rw[this];rfl
theorem kB(hS:S+B<=5):∀(r left:Nat) (taken:j7) (sum:Int) (st:D9),r<=S->st.now.length=S->left<32 ->
 (∀j,j<B->bit (left:Int) (S+j)=(bit (s:Int) (S+j)&&!Iw taken (j:Int))) ->
 jr S (S-r) st.now sum st (bO S B G s r taken) (dw S B G s r left sum st)
 | 0,left,taken,sum,st,hr,hl,hlt,hbit=>by
   have ht:st.now.take S=st.now:=p4 e7;unfold jr;simp only[bO,dw,Nat.sub_zero,ht,ZR,Int.add_zero];by_cases h:sum > st.most
   ·rw[hI h];exact⟨hl,ht,.inl ⟨h,rfl,rfl⟩⟩
   ·rw[hD h];exact⟨hl,ht,.inr ⟨h,rfl,rfl⟩⟩
 | r+1,left,taken,sum,st,hr,hl,hlt,hbit=>by
   have hi:S-r=S-(r+1)+1:=by omega
   obtain⟨i,K⟩:=b9 (S-(r+1));have Wz:i<S:=by omega
   have YS:S-r=i+1:=by omega
   have h0:jr S i st.now sum st (-1::(bO S B G s r taken).1,(bO S B G s r taken).2) (dw S B G s r left sum ⟨st.now.set i (-1),st.Df,st.most⟩):=by
    have ih:=kB hS r left taken sum ⟨st.now.set i (-1),st.Df,st.most⟩ e7 (by simpa using hl) hlt hbit;unfold jr at ih⊢;rw[YS]at ih;simp only[kJ _ (show i<st.now.length by omega)]at ih;obtain⟨g1,g2,g3⟩:=ih;refine⟨g1,?_,?_⟩
    ·have:=Jr (List.take i) g2;rw[aa3,abw e7,List.take_left' (by simp;omega)]at this;exact this
    ·simpa[N7]using g3
   cases hb:bit (s:Int) (S-(r+1))
   ·rw[rA _ _ _ _ hb,fE,<-K];have hno:∀k,cU S B G s r taken k=(-1::(bO S B G s r taken).1,(bO S B G s r taken).2):=by
     intro k
     induction k with
     | zero=>rfl
     | succ k ih=>rw[cM,hD (by simp[eW,hb]),ih]
    rw[hno];exact h0
   ·rw[uk _ _ _ _ hb,fE];have Ap:∀k,k<=B->jr S i st.now sum st (cU S B G s r taken k) (fe S B G s r left sum st k):=by
     intro k
     induction k with
     | zero=>intro _;rw[mP,fO,<-K];exact h0
     | succ k I =>
       intro hk;have I:=I e7;rw[jJ,cM];have hf:eW S s taken (S-(r+1)) k=bit (left:Int) (S+k):=by unfold eW;rw[hb,hbit k e7];simp
       rw[hf];by_cases k7:bit (left:Int) (S+k)=true
       ·rw[hI k7,hI k7,<-K];generalize hst:fe S B G s r left sum st k=w1 at I⊢;generalize J2:cU S B G s r taken k=b1 at I⊢;obtain⟨l1,l2,J⟩:=I
        have ih:=kB hS r (left-2^(S+k)) (taken++[(k:Int)]) (sum+gain G i k) ⟨w1.now.set i (k:Int),w1.Df,w1.most⟩ e7 (by simpa using l1) (Nat.lt_of_le_of_lt (Nat.sub_le _ _) hlt) (by
         intro j hj;rw[MQ hlt e7 e7 k7,hbit j hj];unfold Iw;rw[List.contains_append];by_cases O:j=k
         ·subst O;simp
         ·have h1:decide (S+j=S+k)=false:=by simp;omega
          have h2:[(k:Int)].contains (j:Int)=false:=by simp;omega
          rw[h1,h2];simp)
        generalize bO S B G s r (taken++[(k:Int)])=b2 at ih⊢;generalize dw S B G s r (left-2^(S+k)) (sum+gain G i k) ⟨w1.now.set i (k:Int),w1.Df,w1.most⟩=w2 at ih⊢;unfold jr at ih;rw[YS]at ih;simp only[kJ _ (show i<w1.now.length by omega),l2]at ih;obtain⟨g1,g2,g3⟩:=ih;have gt:w2.now.take i=st.now.take i:=by
         have:=Jr (List.take i) g2;rw[aa3,abw e7,List.take_left' (by simp;omega)]at this;exact this
        unfold jr;refine⟨g1,gt,?_⟩;by_cases CQ:b2.2+gain G i k > b1.2
        ·rw[hI CQ]
         rcases g3 with⟨p1,p2,p3⟩|⟨p1,p2,p3⟩
         ·refine .inl ⟨?_,by rw[p2];simp,by simp only;omega⟩
          try simp only
          rcases J with⟨q1,q2,q3⟩|⟨q1,q2,q3⟩<;>omega
         ·try simp only at p1 p2 p3⊢
          rcases J with⟨q1,q2,q3⟩|⟨q1,q2,q3⟩
          ·omega
          ·exact .inr ⟨by omega,by rw[p2,q2],by omega⟩
        ·rw[hD CQ]
         rcases g3 with⟨p1,p2,p3⟩|⟨p1,p2,p3⟩
         ·try simp only at p1 p2 p3
          rcases J with⟨q1,q2,q3⟩|⟨q1,q2,q3⟩<;>omega
         ·try simp only at p1 p2 p3
          rcases J with⟨q1,q2,q3⟩|⟨q1,q2,q3⟩
          ·exact .inl ⟨q1,by rw[p2,q2],by omega⟩
          ·exact .inr ⟨q1,by rw[p2,q2],by omega⟩
       ·rw[hD k7,hD k7];exact I
    have:=Ap B (ao _)
    rwa [<-K]
end
set_option maxRecDepth 100000
theorem o4.Ra(w:World)(base:Nat)(x:Int)(hb:base<=w.heap.size):o4 (w.alloc (.cells #[.int .i64 x] 3)) base (.slice (some ⟨w.heap.size,0,none⟩) 1 1) [x] :=
 aaY w #[.int .i64 x] 1 hb (by simp[maxLen]) rfl
theorem Ints.one'(w:World)(x:Int)(t:TypeId)(n:Nat)(hn:n=w.heap.size):Ints (w.alloc (.cells #[.int .i64 x] t)) (some ⟨n,0,none⟩) 1 1 [x]:=by
 subst hn;exact Ints.one w x t
theorem o4.made'(w:World)(base n:Nat)(hn:n=w.heap.size)(hb:base<=w.heap.size):o4 (w.alloc (.cells #[] 3)) base (.slice (some ⟨n,0,none⟩) 0 0) []:=by
 subst hn;exact o4.made w base hb
structure Ln(S B:Nat)(G:j5):Prop where
 s1:1<=S
 b1:1<=B
 sb:S+B<=5
 rows:G.length=S
 row:∀i,i<S->(G[i]?.getD []).length=B
 bd:∀i j,0<=gain G i j/\gain G i j<=100
theorem jH(h:cq x y G=true):∃S B:Nat,x=S/\y=B/\Ln S B G:=by
 simp only[cq,xf,sw,Di]at h;obtain⟨⟨⟨⟨⟨h1,h2⟩,h3⟩,h4⟩,h5⟩,h6⟩:=h;refine⟨x.toNat,y.toNat,by omega,by omega,by omega,by omega,by omega,by omega,fun i hi=>?_,fun i j=>?_⟩
 ·have hl:i<G.length:=by omega
  have:=(h6 _ (vl hl)).2;simp[hl];omega
 ·unfold gain;by_cases hl:i<G.length
  ·have:=(h6 _ (vl hl)).1;simp only[bk hl,l'];by_cases hj:j<G[i].length
   ·have:=this _ (vl hj);simp only[r9,xf,sw]at this
    simpa[hj]using this
   ·simp[G4 (by omega:G[i].length<=j)]
  ·simp[G4 (by omega:G.length<=i)]
theorem Ints.O2{w':World}{row:Option Nat}{b:Nat}(h:Ints w (some ⟨b,0,none⟩) 1 1 [x])(hg:w.grownBy w' row)(hne:row≠some b):Ints w' (some ⟨b,0,none⟩) 1 1 [x]:=by
 obtain⟨b',off,e,hc⟩:=h.at (k:=0) e7;simp only[bA,mq,zz]at e;obtain⟨rfl,rfl⟩:=e;have hb:=hg.block b (Kq w _ hc) (fun e=>hne e.symm);refine⟨rfl,ao _,by omega,fun k hk=>⟨b,0,rfl,fun k hk=>?_⟩⟩;obtain rfl:k=0:=by omega
 rw[<-hc];simp[World.cell?,hb]
theorem yJ{S B:Nat}(hM:Ln S B G)(hs:s<32):∀(r i:Nat) (ii:Int),ii=(i:Int)->i+r=S->∀(w:World) (a:j6) (n cap:Nat) (Z:j6) (K U:Nat) (taken:j7),
 cH w a n cap G->Ints w Z K U taken->taken.length<=i ->
 Calls Tryz.prog 159 #[gP S B a n cap,.int .i64 (s:Int),.int .i64 ii,.slice Z K U] w fun e w' =>
  (∃v,e=.returned (.tuple #[v,.int .i64 (bO S B G s r taken).2])/\o4 w' w.heap.size v (bO S B G s r taken).1)/\Ext w w':=by
 have Ec:=hM.sb;intro r
 induction r with
 | zero =>
   intro i ii hii hi w a n cap Z K U taken hG I hl;subst hii;have heq:((i:Int) == (S:Int))=true:=by simp;omega
   have HX:=ae (Ext.alloc w (.cells #[.int .i64 (S:Int),.int .i64 (B:Int),.slice a n cap] 99));have HZ:=ae (show bO S B G s 0 taken=([],0)from rfl);clear hG I hl hi;go_enter Tryz.func159,Tryz.ntmps159
   go_wp2
   rw[HZ.o];refine bR (v:=.tuple #[.slice (some ⟨w.heap.size+1,0,none⟩) 0 0,.int .i64 0]) (by simp[results,Tryz.results159,go_sem]) rfl ⟨⟨_,rfl,o4.made' _ _ _ e8 e8⟩,HX.o.trans (Ext.alloc _ _)⟩
 | succ r ih =>
   intro i ii hii hi w a n cap Z K U taken hG I hl;subst hii;have heq:((i:Int) == (S:Int))=false:=by simp;omega
   have Wz:i<S:=by omega
   have C7:S-(r+1)=i:=by omega
   have HX:=ae (Ext.alloc w (.cells #[.int .i64 (S:Int),.int .i64 (B:Int),.slice a n cap] 99));have HG:=ae (hG.ext HX.o);have HT:=ae (I.ext HX.o);have GH:=ae I.hlen;have SS:K<=5:=by have:=I.hlen;omega
   have Sk:=ae (show n=S by have:=hG.hlen;have:=hM.rows;omega);have HI:=ae C7;have JJ:=ae hi;have HL:=ae hl;have HIH:=ae ih;have HM:=ae hM;have hn:=hG.l8;have hm:=hG.l9;clear hG I hl hi ih C7 hM;go_enter Tryz.func159,Tryz.ntmps159
   go_wp2_with fail;refine(HIH.o (i+1) ((i:Int)+1) e8 (j1 JJ.o) _ a n cap Z K U taken HG.o HT.o (j1 HL.o)).mono ?_;rintro e w1 ⟨⟨v0,rfl,ho⟩,hx⟩;obtain⟨a0,n0,p0,rfl,N0⟩:=ho.var;have Zd:=fz S B G s HM.o.bd r taken;have Ip:n0=r:=by have:=N0.o;omega
   have X1:=ae hx;have O0:=ae ho;have EW:=hx.size;simp at EW;clear hx ho;obtain⟨b0,Cn⟩:=b9 ((bO S B G s r taken).2);obtain⟨l0,Wv⟩:=b9 ((bO S B G s r taken).1);rw[<-Cn,<-Wv]at Zd;rw[<-Wv]at O0;have EO:=ae Cn;have I':=ae Wv;obtain⟨RA,AS,AD⟩:=Zd;have HN0:=ae Ip;have AN:=ae RA;rw[<-Cn];clear Cn Wv Ip RA
   go_wp2_with (first
    | (at_builtin;refine bu rfl _ _ rfl (w.heap.size+1) _ [(-1:Int)] rfl (o4.Ra _ _ _ e7) _ n0 _ l0 rfl (O0.o.ext (Ext.alloc _ _)).ints (by have:=HN0.o;have:=JJ.o;simp;omega) (by simp;omega) ?_;intro v2 w2 ho hg k9;obtain⟨a2,n2,c2,rfl,Gu⟩:=ho.var;have As:=ae ho;have X2:=ae (ak (X1.o.trans (Ext.alloc _ _)) hg (fun j hj=>by have:=Og (show some w1.heap.size=some j from hj);simp;omega));clear ho hg k9))
   have DC:=ae (fun k=>xm S B G s HM.o.bd r taken k)
   go_loopw [11,12,13] (fun t o j wr=>∃(k:Nat) (a1:j6) (n1 p1:Nat),k<=B/\j=.int .i64 (k:Int)/\t=.int .i64 (cU S B G s r taken k).2/\o=.slice a1 n1 p1/\b7 (o4 wr (w.heap.size+1) (.slice a1 n1 p1) (cU S B G s r taken k).1)/\b7 (Ext (w.alloc (.cells #[.int .i64 (S:Int),.int .i64 (B:Int),.slice a n cap] 99)) wr)) (fun _ _ j _=>B-(intOf j).toNat)
   case atStart=>exact⟨0,a2,n2,c2,KJ _,rfl,by rw[fO,<-EO.o],rfl,ae (by rw[fO,<-I'.o];exact As.o),ae X2.o⟩
   case round =>
    obtain⟨k,a1,n1,p1,hk,rfl,rfl,rfl,zi,J⟩:=hrel;have Bg:=DC.o k;obtain⟨T,I⟩:=b9 ((cU S B G s r taken k).2);obtain⟨Q,hQ⟩:=b9 ((cU S B G s r taken k).1);rw[<-I];rw[<-I,<-hQ]at Bg;rw[<-hQ]at zi;obtain⟨Ys,Gy,Qi⟩:=Bg;have Qw:=ae I;have PK:=ae hQ;have W7:=ae Ys;clear I hQ Ys;have c0:wr.cell? ⟨w.heap.size,0,none⟩=some (.int .i64 (S:Int)):=J.o.j9 e8;have c1:wr.cell? ⟨w.heap.size,1,none⟩=some (.int .i64 (B:Int)):=J.o.j9 e8;have c2':wr.cell? ⟨w.heap.size,2,none⟩=some (.slice a n cap):=J.o.j9 e8;have hr5:r<5:=by have:=JJ.o;omega
    by_cases hlt:k<B
    ·have EN:=ae (el (s:Int) i e7 e7);have Xa:=ae (show BC (s:Int) ((S:Int)+(k:Int))=bit (s:Int) (S+k)by have:=el (s:Int) (S+k) e7 e7;simpa using this);have O:=ae (HT.o.ext J.o);have HGw:=ae (HG.o.ext J.o);cases B3:bit (s:Int) i
     ·have HF:=ae (show eW S s taken (S-(r+1)) k=false by unfold eW;rw[HI.o,B3];rfl);rw[B3]at EN;clear B3;go_wp2_with (first|(go_at_call 40;refine(cw _ _ _ e7).mono ?_;rw[EN.o];rintro e w' ⟨rfl,rfl⟩))
      go_roundw
      case rel=>exact⟨k+1,a1,n1,p1,by omega,by go_num,by rw[cM,HF.o,hD e8,<-Qw.o],rfl,ae (by rw[cM,HF.o,hD e8,<-PK.o];exact zi.o),J⟩
      case measure=>simp[intOf];omega
     ·cases hbj:bit (s:Int) (S+k)
      ·have HF:=ae (show eW S s taken (S-(r+1)) k=false by unfold eW;rw[HI.o,B3,hbj];rfl);rw[B3]at EN;rw[hbj]at Xa;clear B3 hbj;go_wp2_with (first|(go_at_call 40;refine(cw _ _ _ e7).mono ?_;(first|rw[EN.o]|rw[Xa.o]);rintro e w' ⟨rfl,rfl⟩))
       go_roundw
       case rel=>exact⟨k+1,a1,n1,p1,by omega,by go_num,by rw[cM,HF.o,hD e8,<-Qw.o],rfl,ae (by rw[cM,HF.o,hD e8,<-PK.o];exact zi.o),J⟩
       case measure=>simp[intOf];omega
      ·have HH:=ae (wU (k:Int) O.o);cases hhas:Iw taken (k:Int)
       ·have HF:=ae (show eW S s taken (S-(r+1)) k=true by unfold eW;rw[HI.o,B3,hbj,hhas];rfl);rw[B3]at EN;rw[hbj]at Xa;rw[hhas]at HH;have hiG:i<n:=by have:=Sk.o;omega
        obtain⟨gb,DU,ga,gn,gc,Oz,Ku,Bv⟩:=HGw.o.at hiG;have YW:k<gn:=by have h1:=Bv.hlen;have h2:=HM.o.row i Wz;omega
        obtain⟨rb,roff,hra,Io⟩:=Bv.at YW;have UI:=HM.o.bd i k;obtain⟨y,hy⟩:=b9 (gain G i k);have Io:wr.cell? ⟨rb,roff+k,none⟩=some (.int .i64 y):=by rw[hy];exact Io
        rw[<-hy]at UI;have HY:=ae hy;have YY:=Bv.l8;have YX:=Bv.l9;clear B3 hbj hhas Bv hy;subst Oz hra;have Ta:=fz S B G s HM.o.bd r (taken++[(k:Int)]);obtain⟨sm,hsm⟩:=b9 ((bO S B G s r (taken++[(k:Int)])).2);obtain⟨lm,hlm⟩:=b9 ((bO S B G s r (taken++[(k:Int)])).1);rw[<-hsm,<-hlm]at Ta;obtain⟨YH,hsm1,hsm2⟩:=Ta;have LQ:=ae hsm;have L5:=ae hlm;have HLML:=ae YH;clear hsm hlm YH
        go_wp2_with (first
         | (go_at_call 40;refine(cw _ _ _ e7).mono ?_;(first|rw[EN.o]|rw[Xa.o]);rintro e w' ⟨rfl,rfl⟩)
         | (go_at_call 213;refine HH.o.mono ?_;rintro e w' ⟨rfl,rfl⟩))
        have k8:=ae (fun(w':World) (h:Ext wr w')=>(⟨h.j9 c0,h.j9 c1,h.j9 c2',h⟩:w'.cell? ⟨w.heap.size,0,none⟩=some (.int .i64 (S:Int))/\w'.cell? ⟨w.heap.size,1,none⟩=some (.int .i64 (B:Int))/\w'.cell? ⟨w.heap.size,2,none⟩=some (.slice (some ⟨gb,DU,none⟩) n cap)/\Ext wr w'));have HW1:=ae (show IntKind.i64.wrap ((i:Int)+1)=(i:Int)+1 by rw[cn];omega);have k7:Ext wr wr.drew:=Ext.drew wr;have zw:Ext wr (wr.alloc (.cells #[] 3)).drew:=(Ext.alloc _ _).trans (Ext.drew _);have hkb:Ext wr (wr.alloc (.cells #[.int .i64 (k:Int)] 3)).drew:=(Ext.alloc _ _).trans (Ext.drew _);have RC:Ext wr ((wr.alloc (.cells #[] 3)).alloc (.cells #[.int .i64 (k:Int)] 3)).drew:=((Ext.alloc _ _).trans (Ext.alloc _ _)).trans (Ext.drew _);have RB:Ext wr ((wr.alloc (.cells #[.int .i64 (k:Int)] 3)).alloc (.cells #[] 3)).drew:=((Ext.alloc _ _).trans (Ext.alloc _ _)).trans (Ext.drew _);have HOA:=ae (show o4 (wr.alloc (.cells #[] 3)).drew wr.heap.size (.slice (some ⟨wr.heap.size,0,none⟩) 0 0) []from(o4.made' wr _ _ rfl (ao _)).ext (Ext.drew _));have HOAB:=ae (show o4 ((wr.alloc (.cells #[] 3)).alloc (.cells #[.int .i64 (k:Int)] 3)).drew wr.heap.size (.slice (some ⟨wr.heap.size,0,none⟩) 0 0) []from((o4.made' wr _ _ rfl (ao _)).ext (Ext.alloc _ _)).ext (Ext.drew _))
        have HOBA:=ae (show o4 ((wr.alloc (.cells #[.int .i64 (k:Int)] 3)).alloc (.cells #[] 3)).drew wr.heap.size (.slice (some ⟨wr.heap.size+1,0,none⟩) 0 0) []from(o4.made' (wr.alloc (.cells #[.int .i64 (k:Int)] 3)) wr.heap.size _ e8 e8).ext (Ext.drew _));have HJAB:=ae (show Ints ((wr.alloc (.cells #[] 3)).alloc (.cells #[.int .i64 (k:Int)] 3)).drew (some ⟨wr.heap.size+1,0,none⟩) 1 1 [(k:Int)]from(Ints.one' (wr.alloc (.cells #[] 3)) (k:Int) 3 (wr.heap.size+1) e8).ext (Ext.drew _));have HJBA:=ae (show Ints ((wr.alloc (.cells #[.int .i64 (k:Int)] 3)).alloc (.cells #[] 3)).drew (some ⟨wr.heap.size,0,none⟩) 1 1 [(k:Int)]from((Ints.one' wr (k:Int) 3 wr.heap.size rfl).ext (Ext.alloc _ _)).ext (Ext.drew _))
        go_region_held3 (fun w'=>w'.cell? ⟨w.heap.size,0,none⟩=some (.int .i64 (S:Int))/\w'.cell? ⟨w.heap.size,1,none⟩=some (.int .i64 (B:Int))/\w'.cell? ⟨w.heap.size,2,none⟩=some (.slice (some ⟨gb,DU,none⟩) n cap)/\Ext wr w')
         (first
           | with_reducible exact k8.o _ k7
           | with_reducible exact k8.o _ zw
           | with_reducible exact k8.o _ hkb
           | with_reducible exact k8.o _ RC
           | with_reducible exact k8.o _ RB
           | with_reducible exact k8.o _ (k7.trans (Ext.alloc _ _)))
         (first
           | (refine bI _ j0 ?_
              refine bF _ _ j0 wr.heap.size (.slice (some ⟨wr.heap.size,0,none⟩) 0 0) [] j0 (by with_reducible exact HOA.o) Z K U taken j0 (O.o.ext zw) (by simp;omega) e8 ?_;intro v2 w3 ho hg k9;have k7:Ext wr w3:=ak zw hg (fun j hj=>by have:=Og (show some wr.heap.size=some j from hj);omega);rw[aaX]at ho;obtain⟨A2,N2,C2,rfl,HN2'⟩:=ho.var;have Ar:=ae (ho.ext (Ext.alloc _ (.cells #[.int .i64 (k:Int)] 3)));have HJ:=ae (Ints.one' w3 (k:Int) 3 w3.heap.size rfl);have DW:=ae (k7.trans (Ext.alloc _ (.cells #[.int .i64 (k:Int)] 3)))
              clear ho hg k9)
           | (refine bI _ j0 ?_
              refine bF _ _ j0 wr.heap.size (.slice (some ⟨wr.heap.size,0,none⟩) 0 0) [] j0 (by with_reducible exact HOAB.o) Z K U taken j0 (O.o.ext RC) (by simp;omega) (by simp;omega) ?_;intro v2 w3 ho hg k9;have k7:Ext wr w3:=ak RC hg (fun j hj=>by have:=Og (show some wr.heap.size=some j from hj);omega);rw[aaX]at ho;obtain⟨A2,N2,C2,rfl,HN2'⟩:=ho.var;have Ar:=ae ho;have HJ:=ae (HJAB.o.O2 hg (by simp[Value.ownBlock]));have DW:=ae k7
              clear ho hg k9)
           | (refine bI _ j0 ?_
              refine bF _ _ j0 wr.heap.size (.slice (some ⟨wr.heap.size+1,0,none⟩) 0 0) [] j0 (by with_reducible exact HOBA.o) Z K U taken j0 (O.o.ext RB) (by simp;omega) (by simp;omega) ?_;intro v2 w3 ho hg k9;have k7:Ext wr w3:=ak RB hg (fun j hj=>by have:=Og (show some (wr.heap.size+1)=some j from hj);omega);rw[aaX]at ho;obtain⟨A2,N2,C2,rfl,HN2'⟩:=ho.var;have Ar:=ae ho;have HJ:=ae (HJBA.o.O2 hg (by simp[Value.ownBlock]));have DW:=ae k7
              clear ho hg k9)
           | (refine bI _ j0 ?_
              refine bF _ _ j0 wr.heap.size (.slice A2 N2 C2) taken j0 (by with_reducible exact Ar.o) _ 1 1 [(k:Int)] j0 HJ.o (j1 GH.o) (by have:=DW.o.size;simp at this⊢;omega) ?_;intro v3 w4 ho hg k9;have k7:Ext wr w4:=ak DW.o hg (fun j hj=>(Ar.o.lt j hj).1);obtain⟨A3,N3,C3,rfl,HN3'⟩:=ho.var;have zW:=ae ho
              clear ho hg k9)
           | (go_at_call 159;rw[HW1.o];refine(HIH.o (i+1) ((i:Int)+1) e8 (j1 JJ.o) _ (some ⟨gb,DU,none⟩) n cap A3 N3 C3 (taken++[(k:Int)]) (HGw.o.ext k7) zW.o.ints (by have:=HL.o;simp;omega)).mono ?_;rw[<-LQ.o,<-L5.o];rintro e w5 ⟨⟨v5,rfl,ho⟩,hx⟩;obtain⟨a5,n5,c5,rfl,N5⟩:=ho.var;have Cf:=ae ho;have k7:=k7.trans hx;have hsz6:=hx.size;clear ho hx))
        all_goals
         have X5:=ae (J.o.trans k7);have O3:=ae (zi.o.ext k7);replace c0:=k7.j9 c0;replace c1:=k7.j9 c1;replace c2':=k7.j9 c2';replace Ku:=k7.j9 Ku;replace Io:=k7.j9 Io;have Un:w.heap.size+1<=w5.heap.size:=by have:=X5.o.size;simpa using this
         clear k7 zw hkb RC RB HOA HOAB HOBA HJAB HJBA k8;by_cases CQ:T<sm+y
         ·have HGT:=ae CQ
          go_wp2_with (first
           | (at_builtin;refine bu rfl _ _ rfl (w.heap.size+1) _ [(k:Int)] rfl (o4.Ra _ _ _ e7) _ n5 _ lm rfl (Cf.o.ext (Ext.alloc _ _)).ints (by have:=N5.o;have:=HLML.o;simp;omega) (by simp;omega) ?_;intro v6 w6 ho hg k9;obtain⟨a6,n6,c6,rfl,H'⟩:=ho.var;have IJ:=ae ho;have X6:=ae (ak (X5.o.trans (Ext.alloc _ _)) hg (fun j hj=>by have:=Og (show some w5.heap.size=some j from hj);simp;omega));clear ho hg k9))
          go_roundw
          case rel =>
           have hb:cU S B G s r taken (k+1)=((k:Int)::lm,sm+y):=by rw[cM,HF.o,hI rfl,<-LQ.o,<-L5.o,HI.o,<-HY.o,<-Qw.o,hI (j1 HGT.o)]
           exact⟨k+1,a6,n6,c6,by omega,by go_num,by rw[hb],rfl,ae (by rw[hb];simpa using IJ.o),X6⟩
          case measure=>simp[intOf];omega
         ·have HGT:=ae CQ
          go_wp2
          go_roundw
          case rel =>
           have hb:cU S B G s r taken (k+1)=cU S B G s r taken k:=by rw[cM,HF.o,hI rfl,<-LQ.o,<-L5.o,HI.o,<-HY.o,<-Qw.o,hD (j1 HGT.o)]
           exact⟨k+1,a1,n1,p1,by omega,by go_num,by rw[hb,<-Qw.o],rfl,ae (by rw[hb,<-PK.o];exact O3.o),X5⟩
          case measure=>simp[intOf];omega
       ·have HF:=ae (show eW S s taken (S-(r+1)) k=false by unfold eW;rw[HI.o,B3,hbj,hhas];rfl);rw[B3]at EN;rw[hbj]at Xa;rw[hhas]at HH;clear B3 hbj hhas
        go_wp2_with (first
         | (go_at_call 40;refine(cw _ _ _ e7).mono ?_;(first|rw[EN.o]|rw[Xa.o]);rintro e w' ⟨rfl,rfl⟩)
         | (go_at_call 213;refine HH.o.mono ?_;rintro e w' ⟨rfl,rfl⟩))
        go_roundw
        case rel=>exact⟨k+1,a1,n1,p1,by omega,by go_num,by rw[cM,HF.o,hD e8,<-Qw.o],rfl,ae (by rw[cM,HF.o,hD e8,<-PK.o];exact zi.o),J⟩
        case measure=>simp[intOf];omega
    ·go_wp2
     have hkB:k=B:=by omega
     subst hkB;refine bR (v:=.tuple #[.slice a1 n1 p1,.int .i64 T]) (by simp[results,Tryz.results159,go_sem]) rfl ⟨⟨_,by rw[fE,Qw.o],?_⟩,HX.o.trans J.o⟩;rw[fE,<-PK.o];exact zi.o.mono e7
def et(x y:Int)(G:j5)(s:Int):Bool:=cq x y G&&r9 s 0 (BO (x+y)-1)
def jo(x y:Int)(G:j5)(s:Int):j7×Int:=if et x y G s=true then bO x.toNat y.toNat G s.toNat x.toNat [] else([],0)
theorem ps{s:Int}(h:et x y G s=false):jo x y G s=([],0):=by simp[jo,h]
theorem ry{S B:Nat}(h:et (S:Int) (B:Int) G (s:Int)=true):jo (S:Int) (B:Int) G (s:Int)=bO S B G s S []:=by simp[jo,h]
