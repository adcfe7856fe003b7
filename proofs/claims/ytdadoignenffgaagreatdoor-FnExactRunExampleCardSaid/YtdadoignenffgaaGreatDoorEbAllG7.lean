import Derived.Test.YtdadoignenffgaaGreatDoorEbAllG6
import Derived.Test.YtdadoignenffgaaGreatDoorEbAllG1
import Derived.Test.YtdadoignenffgaaGreatDoorEbAllG51
set_option linter.unusedVariables false
set_option linter.unusedSimpArgs false
namespace Go.Proofs.YtdadoignenffgaaGreatDoor
variable{l:j7}
set_option maxHeartbeats 16000000
open Go.RowKit
def aL(p:Int)(l:j7):Bool:=l.all (fun x=>r9 x (-500) 500)&&(r9 p 1 5&&(decide ((l.length:Int)=BO p)&&decide (l[0]?.getD 0=0)))
theorem bQ{p:Int}(h:aL p l=true):∃n:Nat,p=n/\1<=n/\n<=5/\l.length=cN n/\l[0]?.getD 0=0/\∀x∈l,-500<=x/\x<=500:=by
 unfold aL at h;simp only[xf,sw]at h;obtain⟨ha,hp,hl,h0⟩:=h;have hb:1<=p/\p<=5:=by unfold r9 at hp;simpa using hp
 refine⟨p.toNat,by omega,by omega,by omega,?_,h0,?_⟩
 ·have:p=(p.toNat:Int):=by omega
  rw[this,eH _ e7]at hl;omega
 ·intro x hx;have:=Di.1 ha x hx;unfold r9 at this
  simpa using this
theorem es{w:World}{p:Int}{a:j6}{n cap:Nat}(h:Ints w a n cap l):
 Calls Tryz.prog 39 #[pair p a n cap] w fun e w'=>e=.returned (.bool (aL p l))/\Ext w w':=by
 have h1:=h.alloc (.cells #[.int .i64 p,.slice a n cap] 32);have hn:=h.l8;have hm:=h.l9;have HL:=ae h.hlen;clear h;go_enter Tryz.func39,Tryz.ntmps39
 go_wp2
 go_loop [3] (fun i=>∃k:Nat,k<=n/\i=.int .i64 k/\(l.take k).all (fun x=>r9 x (-500) 500)=true) (fun i=>n-(intOf i).toNat)
 case atStart=>exact⟨0,KJ _,rfl,rfl⟩
 case round =>
  obtain⟨k,hk,rfl,Ap⟩:=hrel;have HA:=ae Ap;clear Ap;by_cases hlt:k<n
  ·obtain⟨b,off,rfl,hc⟩:=h1.at hlt;cases hb:r9 (l[k]?.getD 0) (-500) 500
   ·have HB:=ae hb;go_wp2_with (first|(go_at_call 45;refine(aZ _ _ _ _).mono ?_;rintro e w' ⟨rfl,rfl⟩));go_ret;refine⟨ag ?_,Ext.alloc _ _⟩
    symm
    unfold aL;cases hx:l.all (fun x=>r9 x (-500) 500)
    ·rfl
    ·have:=py hx (k:=k) (j1 HL.o);rw[HB.o]at this;cases this
   ·have HB:=ae hb;go_wp2_with (first|(go_at_call 45;refine(aZ _ _ _ _).mono ?_;rintro e w' ⟨rfl,rfl⟩))
    go_round
    case rel=>exact⟨k+1,by omega,by go_num,by rw[cu (j1 HL.o),RN,HA.o];simpa using HB.o⟩
    case measure=>simp[intOf];omega
  ·have G:k=l.length:=by have:=HL.o;omega
   have Ap:=HA.o;rw[G,aaN]at Ap;have I:=ae Ap;clear Ap G;cases hp:r9 p 1 5
   ·have HP:=ae hp
    go_wp2
    go_quiet ((first|(go_at_call 45;exact aU (aZ _ _ _ _))|(go_at_call 99;exact aU (df _ _))))
    go_wp2
    go_ret;exact⟨ag (by unfold aL;rw[I.o,HP.o];rfl),aac (Ext.alloc _ _) _⟩
   ·have HP:=ae hp;cases hl:((n:Int) == BO p)
    ·have HE:=ae hl
     go_wp2
     go_quiet ((first|(go_at_call 45;exact aU (aZ _ _ _ _))|(go_at_call 99;exact aU (df _ _))))
     go_wp2
     go_ret;refine⟨ag ?_,aac (Ext.alloc _ _) _⟩;have:¬((l.length:Int)=BO p):=by rw[HL.o];have:=HE.o;simpa using this
     unfold aL;rw[u' this];simp
    ·have HE:=ae hl;have J:0<n:=by
      have h1:1<=p/\p<=5:=by unfold r9 at hp;simpa using hp
      have h2:(n:Int)=BO p:=by simpa using hl
      unfold BO at h2;rw[hI (by unfold r9;simp;omega)]at h2;have:=fi p.toNat;omega
     obtain⟨b,off,rfl,hc⟩:=h1.at J;rw[ab3]at hc
     go_wp2
     go_quiet ((first|(go_at_call 45;exact aU (aZ _ _ _ _))|(go_at_call 99;exact aU (df _ _))))
     go_wp2
     go_ret;refine⟨ag ?_,aac (Ext.alloc _ _) _⟩;have he:(l.length:Int)=BO p:=by rw[HL.o];have:=HE.o;simpa using this
     unfold aL;rw[I.o,HP.o,z' he];rw[U9];simp
theorem pH(x:Int)(w:World):Calls Tryz.prog 121 #[.int .i64 x] w fun e w'=>e=.returned (.bool (!r9 x (-500) 500))/\w=w':=by
 go_enter Tryz.func121,Tryz.ntmps121
 go_wp2_with (first|(go_at_call 61;refine(aq _ _ _ _).mono ?_;rintro e w' ⟨rfl,rfl⟩));go_ret;exact⟨rfl,rfl⟩
theorem oz:IsGo Tryz.prog 121:=isGo Tryz.func121 e9 e9
theorem ma(w:World):FJ Tryz.prog w 121 #[] (fun x=>!r9 x (-500) 500) :=
 fun x w1 _=>(pH x w1).mono fun e w' ⟨he,hw⟩=>⟨he,hw▸Ext.refl _⟩
theorem iA(p:Int)(l:j7):aL p l=(r9 p 1 5&&(decide ((l.length:Int)=BO p)&&(decide (l[0]?.getD 0=0)&&!l.any (fun x=>!r9 x (-500) 500)))):=by
 unfold aL;have:(!l.any (fun x=>!r9 x (-500) 500))=l.all (fun x=>r9 x (-500) 500):=by rw[aaw];simp
 rw[this];cases l.all (fun x=>r9 x (-500) 500)<;>simp
theorem ed{w:World}{p:Int}{a:j6}{n cap:Nat}(h:Ints w a n cap l):
 Calls Tryz.prog 64 #[pair p a n cap] w fun e w'=>e=.returned (.bool (aL p l))/\Ext w w':=by
 have h1:=h.alloc (.cells #[.int .i64 p,.slice a n cap] 32);have HX:=ae (Ext.alloc w (.cells #[.int .i64 p,.slice a n cap] 32));have hn:=h.l8;have hm:=h.l9;have HL:=ae h.hlen;clear h;cases hp:r9 p 1 5
 ·have HP:=ae hp;go_enter adQ,adn
  go_wp2
  go_quiet ((first|(go_at_call 61;exact aU (aq _ _ _ _))))
  go_wp2
  go_ret;exact⟨ag (by rw[iA,HP.o];rfl),aac (Ext.alloc _ _) _⟩
 ·have HP:=ae hp;obtain⟨m,rfl⟩:∃m:Nat,p=m:=⟨p.toNat,by unfold r9 at hp;simp at hp;omega⟩;have J:1<=m/\m<=5:=by unfold r9 at hp;simp at hp;omega
  obtain⟨J,G⟩:=J;have NY:IntKind.i64.wrap ((2:Int)^m)=(cN m:Int):=by
   have h1:=fi m;have h2:=gj m G;rw[cn,iP];omega
  have Uf:wrap64 ((2:Int)^m)=(cN m:Int):=(kC m G).trans (iP m).symm;have HC:=ae (eH m G);have hN:=bP m G;cases hl:((n:Int) != (cN m:Int))
  ·have hnm:n=cN m:=Int.ofNat.inj (show(n:Int)=(cN m:Int)by simpa using hl);have I:=ae hnm;have K:0<n:=by omega
   obtain⟨b,off,rfl,hc⟩:=h1.at K;rw[ab3]at hc;clear hnm;cases h0:(l[0]?.getD 0 != 0)
   ·have HZ:=ae h0;have HI:=ae h1;go_enter adQ,adn
    go_wp2
    go_quiet ((first|(go_at_call 61;exact aU (aq _ _ _ _))))
    go_wp2_with fail;refine(de (HI.o.drewN _) oz (ma _)).mono ?_;rintro e w1 ⟨rfl,hx⟩
    go_wp2
    go_ret;refine⟨ag ?_,Ext.trans (aac HX.o _) hx⟩;rw[iA,HP.o,HC.o,HL.o,I.o,z' rfl];have:l[0]?.getD 0=0:=by simpa using HZ.o
    rw[z' this]
    rfl
   ·have HZ:=ae h0;go_enter adQ,adn
    go_wp2
    go_quiet ((first|(go_at_call 61;exact aU (aq _ _ _ _))))
    go_wp2
    go_ret;refine⟨ag ?_,aac HX.o _⟩;have:¬(l[0]?.getD 0=0):=by simpa using HZ.o
    rw[iA,u' this];simp
  ·have H8:=ae hl;go_enter adQ,adn
   go_wp2
   go_quiet ((first|(go_at_call 61;exact aU (aq _ _ _ _))))
   go_wp2
   go_ret;refine⟨ag ?_,aac HX.o _⟩;have:¬((l.length:Int)=BO (m:Int)):=by rw[HL.o,HC.o];have:=H8.o;simpa using this
   rw[iA,u' this];simp
def cV(q n:Nat):j5:=A9 q (BY 1 (n-1))
def dk(q:Nat):j7:=List.replicate q 1
def bG(V:j7):j4:=(V.drop 1).map fun v=>(-v,1)
theorem xy{p:Int}{V:j7}(h:aL p V=true)(A:j5)(B:j7):bD ar A B (bG V)=fd A B (bG V):=by
 obtain⟨q,rfl,_,_,_,_,hb⟩:=bQ h;refine pm fun _ j hj=>aaJ ⟨-((V.drop 1)[j]?.getD 0),?_,?_⟩
 ·unfold bG at hj⊢;rw[zo]at hj;rw[MD,bk hj];rfl
 ·unfold bG at hj;rw[zo]at hj;rw[bk hj,l'];have:=hb _ (List.mem_of_mem_drop (vl hj));omega
def dX(g:Int)(r:BQ):(Int×Int)×Bool:=Ab (g,1) r.value
def Jh(r:BQ):j4:=r.Y.map ze
def iB(g:Int)(r:BQ):(Int×Int)×Bool:=Ab ((Jh r)[(Jh r).length-1]?.getD (0,0)) (dX g r).1
def Wf(g:Int)(r:BQ):j4:=(Jh r).set ((Jh r).length-1) (iB g r).1
theorem yS{a x b c:Int}(hb:0<b)(hc:0<c)(h:a*c=x*b):a<0↔x<0:=by
 constructor
 ·intro ha
  rcases adh x 0 with h1|h1
  ·exact h1
  ·have h2:=Int.mul_neg_of_neg_of_pos ha hc;have h3:=aa2 h1 (Int.le_of_lt hb);omega
 ·intro hx
  rcases adh a 0 with h1|h1
  ·exact h1
  ·have h2:=Int.mul_neg_of_neg_of_pos hx hb;have h3:=aa2 h1 (Int.le_of_lt hc);omega
theorem wY{g:Int}{r:BQ}(h:(dX g r).2=true):0<zV (ze r.value) (g,1)↔(dX g r).1.1<0:=by
 unfold dX at h⊢;obtain⟨h1,h2,h3,_⟩:=lY h;have hb:=aQ h2;have hs:=aQ h3;have hn:o9 (ze r.value)=true:=by rw[dI];exact h2
 have he:Ab (g,1) r.value=aI (g*r.value.2+r.value.1*1) (1*r.value.2):=by unfold Ab;rw[h1,h2];rfl
 rw[he]at h hs⊢;have hf:=(kt e7 h);have hc:zV (ze r.value) (g,1)=if -r.value.1*1<g*r.value.2 then -1 else if g*r.value.2 < -r.value.1*1 then 1 else 0:=by unfold zV;rw[hn,h1];rfl
 rw[hc];have G:=yS (a:=(aI (g*r.value.2+r.value.1*1) (1*r.value.2)).1.1) (x:=g*r.value.2+r.value.1*1) (b:=(aI (g*r.value.2+r.value.1*1) (1*r.value.2)).1.2) (c:=r.value.2) e7 e7 (by have:=hf.2.2;rw[Int.one_mul]at this;simpa using this);rw[G];by_cases h5:-r.value.1*1<g*r.value.2
 ·rw[hI h5];omega
 ·rw[hD h5];by_cases h6:g*r.value.2 < -r.value.1*1
  ·rw[hI h6];omega
  ·rw[hD h6];omega
