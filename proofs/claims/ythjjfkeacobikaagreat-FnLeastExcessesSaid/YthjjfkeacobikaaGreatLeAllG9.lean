import Derived.Test.YthjjfkeacobikaaGreatLeAllG7
import Derived.Test.YthjjfkeacobikaaGreatLeAllG8
import Derived.Test.YthjjfkeacobikaaGreatLeAllG3
import Derived.Deep.DeepCutAuto
import Derived.Test.YthjjfkeacobikaaGreatLeAllG0
import Derived.Test.YthjjfkeacobikaaGreatLeAllG2
set_option linter.unusedVariables false
set_option linter.unusedSimpArgs false
namespace Go.Proofs.YthjjfkeacobikaaGreat
set_option maxRecDepth 100000
open Go.RowKit
def fg:Nat->Int
 | 0=>1
 | k+1=>((k:Int)+1)*fg k
def dX (n:Int):Int:=fg n.toNat
theorem og (m:Nat) (h:m<=5):1<=fg m/\fg m<=120:=by
 have:m=0 ∨ m=1 ∨ m=2 ∨ m=3 ∨ m=4 ∨ m=5:=by omega
 rcases this with rfl|rfl|rfl|rfl|rfl|rfl <;> decide
def shW (n i:Nat):Int:=fg i*fg (n-1-i)
theorem shW_bd (n i:Nat) (hn:n<=5) (hi:i<=5):0<=shW n i/\shW n i<=1000:=by
 have h1:∀ n:Fin 6,∀ i:Fin 6,0<=shW n.val i.val/\shW n.val i.val<=1000:=by decide +kernel
 exact h1 ⟨n,by omega⟩ ⟨i,by omega⟩
def shV (n i:Nat):Int:=if i<=5 then shW n i else 0
theorem shV_bd (n:Nat) (hn:n<=5) (i:Nat):-1000<=shV n i/\shV n i<=1000:=by
 unfold shV;split
 ·have:=shW_bd n i hn (by assumption);omega
 ·omega
def lS (p:Int) (V:List Int) (k:Nat):List (Int × Int):=if aN p V=true then avgT (shV p.toNat) V (dX p) k else []
def shapL (p:Int) (V:List Int):List (Int × Int):=lS p V p.toNat
theorem tM {p:Int} {V:List Int} (k:Nat) (h:aN p V=false):lS p V k=[]:=by simp [lS,h]
theorem shapT_ok {p:Int} {V:List Int} (k:Nat) (h:aN p V=true):lS p V k=avgT (shV p.toNat) V (dX p) k:=by simp [lS,h]
theorem fact_end {n:Int} {j:Nat} (h1:j=0 ∨ (j:Int)+1<=n) (h2:¬ (j:Int)+2<=n):fg (j+1)=dX n:=by
 unfold dX
 rcases h1 with rfl|h1
 ·have:n.toNat=0 ∨ n.toNat=1:=by omega
  rcases this with h|h <;> rw [h] <;> decide
 ·rw [show n.toNat=j+1 by omega]
set_option maxHeartbeats 400000 in
theorem iC (n:Int) (hn:n<=5) (w:World):Calls Tryz.prog 261 #[.int .i64 n] w fun e w'=>e=.returned (.int .i64 (dX n))/\w=w':=by
 go_enter Tryz.func261,Tryz.ntmps261
 go_wp2
 go_loop [3,4] (fun o i=>∃ j:Nat,Hid (j=0 ∨ (j:Int)+1<=n)/\i=.int .i64 ((j:Int)+2)/\o=.int .i64 (fg (j+1))) (fun _ i=>(8-intOf i).toNat)
 case atStart=>exact ⟨0,ae (.inl rfl),by simp,by rfl⟩
 case round =>
  obtain ⟨j,HJ,rfl,hT⟩:=hrel;obtain ⟨T,hT'⟩:∃ T,T=fg (j+1):=⟨_,rfl⟩;rw [<-hT'] at hT;subst hT;have HT:=ae hT';clear hT';have hj5:j<=4:=by have:=HJ.out;omega
  by_cases hlt:(j:Int)+2<=n
  ·have hmul:IntKind.i64.wrap (T*((j:Int)+2))=fg (j+2):=by
    have h1:T*((j:Int)+2)=fg (j+2):=by rw [HT.out];show _=(((j+1:Nat):Int)+1)*fg (j+1);rw [Int.mul_comm];congr 1
    have h2:=og (j+2) (by omega);rw [h1,IntKind.wrap_i64];omega
   go_wp2
   go_round
   case rel=>exact ⟨j+1,ae (.inr (by omega)),by go_num,by rfl⟩
   case measure=>simp [intOf];omega
  ·have HE:=ae (fact_end HJ.out hlt)
   go_wp2
   go_ret;exact ⟨aQ (by rw [HT.out,HE.out]),rfl⟩
theorem sh_wt {n q:Nat} (hq:q<=5):dX (q:Int)*dX ((n:Int)-(q:Int)-1)=shV n q:=by
 unfold shV shW dX;rw [if_pos hq,show ((n:Int)-(q:Int)-1).toNat=n-1-q by omega];rfl
theorem oe {n:Int} (h:n<=5):1<=dX n/\dX n<=120:=og _ (by omega)
set_option maxHeartbeats 4000000 in
theorem mE {w:World} {x:Int} {a:Option Addr} {m cap:Nat} {V:List Int} (h:Ints w a m cap V) :
 Calls Tryz.prog 214 #[pair x a m cap] w fun e w'=>(∃ v,e=.returned (.tuple #[v,.bool (aN x V)])/\OwnR w' w.heap.size v (shapL x V))/\Ext w w':=by
 obtain ⟨W,hW⟩:∃ W,W=w.alloc (.cells #[.int .i64 x,.slice a m cap] 29):=⟨_,rfl⟩;have HWS:=ae (show W.heap.size=w.heap.size+1 by rw [hW];simp);have HX:=ae (show Ext w W by rw [hW];exact Ext.alloc _ _);have HC0:=ae (show W.cell? ⟨w.heap.size,0,none⟩=some (.int .i64 x) by rw [hW];simp);have HC1:=ae (show W.cell? ⟨w.heap.size,1,none⟩=some (.slice a m cap) by rw [hW];simp)
 have HO:=ae (show OwnR (W.alloc (.cells #[] 43)) (w.heap.size+1) (.slice (some ⟨w.heap.size+1,0,none⟩) 0 0) [] by
  have:=OwnR.made (w.alloc (.cells #[.int .i64 x,.slice a m cap] 29)) (w.heap.size+1) (by simp)
  rw [hW];simpa using this)
 have HL:=ae h.hlen;have HI:=ae (h.ext HX.out);have hmax:=h.hmax;have hcap:=h.hcap;have HV:=ae (dA (p:=x) (HI.out.ext (Ext.alloc W (.cells #[] 43))));clear h;cases hv:aN x V
 ·have HVV:=ae hv;rw [hv,hW] at HV;clear hv;go_enter Tryz.func214,Tryz.ntmps214
  go_wp2_with fail;refine HV.out.mono ?_;rw [<-hW];rintro e w2 ⟨rfl,hx2⟩
  go_wp2
  refine bodyPost_ret (v:=.tuple #[.slice (some ⟨w.heap.size+1,0,none⟩) 0 0,.bool false]) (by simp [results,Tryz.results214,go_sem]) rfl ⟨⟨_,rfl,by unfold shapL;rw [tM _ HVV.out];exact (HO.out.ext hx2).mono (by omega)⟩,HX.out.trans ((Ext.alloc _ _).trans hx2)⟩
 obtain ⟨n,rfl,h1,h5,hlen,_,hbd⟩:=bd hv;have HVV:=ae hv;have hm:m=cN n:=by have:=HL.out;omega
 have hN:=cX n h5;have HM:=ae hm;have HBD:=ae hbd;have hm32:m<=32:=by omega
 rw [hv,hW] at HV;clear hv hlen hbd hm hN;go_enter Tryz.func214,Tryz.ntmps214
 go_wp2_with fail;refine HV.out.mono ?_;rw [<-hW];clear hW;rintro e w1 ⟨rfl,hx1⟩;have HX1:=ae ((Ext.alloc W (.cells #[] 43)).trans hx1);have c0:=HX1.out.cellSome HC0.out;have HO1:=ae (HO.out.ext hx1);clear hx1 HV;go_wp2_with fail;clear c0
 go_loopg [4,6] n (fun gk o i wr=>∃ (k:Nat) (a1:Option Addr) (n1 p1:Nat),Hid (gk+k=n)/\i=.int .i64 (k:Int)/\o=.slice a1 n1 p1/\Hid (OwnR wr (w.heap.size+1) (.slice a1 n1 p1) (avgT (shV n) V (dX (n:Int)) k))/\Hid (Ext W wr))
 case atStart=>exact ⟨0,_,_,_,ae (by omega),rfl,rfl,ae (by rw [rR];exact HO1.out),HX1⟩
 case round =>
  obtain ⟨g1,h_g1⟩:∃ x,x=gk:=⟨_,rfl⟩;subst h_g1;obtain ⟨wr1,h_wr1⟩:∃ x,x=wr:=⟨_,rfl⟩;subst h_wr1;obtain ⟨k,a1,n1,p1,HK,rfl,rfl,HOK,HX2⟩:=hrel;have hsz:=HX2.out.size;rw [HWS.out] at hsz;have c1:=HX2.out.cellSome HC1.out;have HI1:=ae (HI.out.ext HX2.out);by_cases hlt:k<n
  ·have hin:inB (k:Int) 0 4=true:=by unfold inB;simp;omega
   have HC:=ae (s_l2B k (by omega));have hp:=fQ k;have hp5:=iz k (by omega);go_wp2_with fail
   go_loopg [7,8] m (fun gk t i wr=>∃ j:Nat,Hid (gk+j=m)/\i=.int .i64 (j:Int)/\t=.int .i64 (avgS (shV n) V k j)/\Hid (Ext wr1 wr))
   case atStart=>exact ⟨0,ae (by omega),rfl,rfl,ae (Ext.refl _)⟩
   case round =>
    obtain ⟨g2,h_g2⟩:∃ x,x=gk:=⟨_,rfl⟩;subst h_g2;obtain ⟨wr2,h_wr2⟩:∃ x,x=wr:=⟨_,rfl⟩;subst h_wr2;obtain ⟨j,HJ,rfl,ht,HX3⟩:=hrel;obtain ⟨T,hT⟩:∃ T,T=avgS (shV n) V k j:=⟨_,rfl⟩;have hTb:=pZ HBD.out (shV_bd n h5) k j;rw [<-hT] at ht hTb;subst ht;have HT:=ae hT;clear hT;have c1':=HX3.out.cellSome c1;by_cases hlt2:j<m
    ·have HI3:=ae (HI1.out.ext HX3.out);obtain ⟨b,off,he,hc⟩:=HI3.out.at hlt2;have hv1:=ek HBD.out j;obtain ⟨v1,hy1⟩:∃ y,y=V[j]?.getD 0:=⟨_,rfl⟩;rw [<-hy1] at hc hv1;have HY1:=ae hy1;clear hy1;subst he;have hb:=iI (j:Int) k (by omega) (by omega);cases hbit:bit (j:Int) k
     ·rw [hbit] at hb;have HB:=ae hbit;have HBB:=ae hb;have hu:=up_lt h5 (by rw [<-HM.out];exact hlt2) hlt hbit;obtain ⟨u,hu'⟩:∃ u:Nat,u=j+2 ^ k:=⟨_,rfl⟩;have hui:(j:Int)+2 ^ k=(u:Int):=by rw [hu'];simp
      have hum:u<m:=by rw [HM.out,hu'];exact hu
      obtain ⟨b2,off2,he2,hc2⟩:=HI3.out.at hum;simp only [Option.some.injEq,Addr.mk.injEq,and_true] at he2;obtain ⟨rfl,rfl⟩:=he2;have hv2:=ek HBD.out u;obtain ⟨v2,hy2⟩:∃ y,y=V[u]?.getD 0:=⟨_,rfl⟩;rw [<-hy2] at hc2 hv2;have HY2:=ae hy2;have HU:=ae hu';have hq5:=popN_le j;obtain ⟨q,hq⟩:∃ q,q=popN j:=⟨_,rfl⟩;rw [<-hq] at hq5;have HQ:=ae hq;have hsw:=sh_wt (n:=n) hq5;have hf1:=oe (n:=(q:Int)) (by omega);have hf2:=oe (n:=(n:Int)-(q:Int)-1) (by omega);have hmb:=wt_bd (x:=dX (q:Int)) (y:=dX ((n:Int)-(q:Int)-1)) (by omega) (by omega) (by omega) (by omega);obtain ⟨Wt,hWt⟩:∃ t,t=shV n q:=⟨_,rfl⟩;have hwb:=shV_bd n h5 q;rw [<-hWt] at hwb hsw;have hm2:=wt_bd hwb.1 hwb.2 (y:=v2-v1) (by omega) (by omega);obtain ⟨X,hX⟩:∃ X,X=Wt*(v2-v1):=⟨_,rfl⟩;rw [<-hX] at hm2;have HXX:=ae hX;have HWt:=ae hWt;have e0:IntKind.i64.wrap (dX (q:Int)*dX ((n:Int)-(q:Int)-1))=Wt:=by rw [<-hsw,IntKind.wrap_i64];omega
      have e1:IntKind.i64.wrap (v2-v1)=v2-v1:=by rw [IntKind.wrap_i64];omega
      have e2:IntKind.i64.wrap (Wt*(v2-v1))=X:=by rw [<-hX,IntKind.wrap_i64];omega
      have e3:IntKind.i64.wrap ((j:Int)+2 ^ k)=(u:Int):=by rw [hui,IntKind.wrap_i64];omega
      have e4:IntKind.i64.wrap (T+X)=T+X:=by rw [IntKind.wrap_i64];omega
      have e5:IntKind.i64.wrap ((n:Int)-(q:Int))=(n:Int)-(q:Int):=by rw [IntKind.wrap_i64];omega
      have e6:IntKind.i64.wrap ((n:Int)-(q:Int)-1)=(n:Int)-(q:Int)-1:=by rw [IntKind.wrap_i64];omega
      have hum32:u<=32:=by omega
      have HPOP:=ae (show (popT j 5:Int)=(q:Int) by rw [hq];rfl);clear hy2 hbit hu hui hu' hb hv1 hv2 hTb hX hWt hwb hm2 hmb hf1 hf2 hsw hq hp hp5;go_wp2_with (first|(go_at_call 79;refine (dN _ _ _ (by omega)).mono ?_;rw [HBB.out];rintro e w' ⟨rfl,rfl⟩)|(go_at_call 245;refine (iX j (by omega) _).mono ?_;rw [HPOP.out];rintro e w' ⟨rfl,rfl⟩))
      go_quiet ((first|(go_at_call 261;exact bM (iC _ (by omega) _))|(go_at_call 78;exact bM (HC.out _))))
      go_wp2
      go_roundg (g2-1)
      case measure=>have:=HJ.out;omega
      case rel=>exact ⟨j+1,ae (by have:=HJ.out;omega),by go_num,by unfold avgS;rw [HB.out,<-HT.out,<-HU.out,<-HY2.out,<-HY1.out,<-HQ.out,<-HWt.out,<-HXX.out];simp [go_sem,e4],ae (HX3.out.trans (Drew.ext ⟨_,rfl⟩))⟩
     ·rw [hbit] at hb;have HB:=ae hbit;have HBB:=ae hb;clear hbit hb;go_wp2_with (first|(go_at_call 79;refine (dN _ _ _ (by omega)).mono ?_;rw [HBB.out];rintro e w' ⟨rfl,rfl⟩))
      go_roundg (g2-1)
      case measure=>have:=HJ.out;omega
      case rel=>exact ⟨j+1,ae (by have:=HJ.out;omega),by go_num,by unfold avgS;rw [HB.out,<-HT.out];simp,HX3⟩
    ·have hjm:m=j:=by have:=HJ.out;omega
     subst hjm;obtain ⟨p,q,ok,hpq⟩:∃ p q ok,aL T (dX (n:Int))=((p,q),ok):=⟨_,_,_,rfl⟩;have HPQ:=ae hpq;have X12:=ae (HX2.out.trans HX3.out);have HO3:=ae (HOK.out.ext HX3.out);have hsz2:=X12.out.size;rw [HWS.out] at hsz2;have HRR:=ae (fun (w':World)=>iB T (dX (n:Int)) w');rw [HPQ.out] at HRR;have hnn:(n:Int)<=5:=by omega
     clear hpq
     go_wp2_with (first
      | (go_at_call 261;refine (iC _ hnn _).mono ?_;rintro e w' ⟨rfl,rfl⟩)
      | (go_at_call 90;refine (HRR.out _).mono ?_;rintro e w3 ⟨rfl,hx3⟩;have X3:=ae (X12.out.trans hx3);have HO4:=ae (HO3.out.ext hx3);have hsz3:=hx3.size;clear hx3)
      | (at_builtin;refine aG rfl _ _ rfl (w.heap.size+1) (.slice a1 n1 p1) _ rfl ((HO4.out.ext (Ext.alloc _ _)).ext (Ext.alloc _ _)) _ 1 _ [(p,q)] rfl (Rats.one' _ _ _ _ _ (by simp)) (by rw [avgT_len];omega) (by simp;omega) ?_;intro v2 w4 ho hg hnear;have X5:=ae (ak (X3.out.trans ((Ext.alloc _ _).trans (Ext.alloc _ _))) hg (fun j hj=>by rw [HWS.out];exact (HO4.out.lt j hj).1));obtain ⟨a2,n2,c2,rfl,HN2⟩:=ho.var;have HO5:=ae ho;clear ho hg hnear))
     go_roundg (g1-1)
     case measure=>have:=HK.out;omega
     case rel =>
      refine ⟨k+1,a2,n2,c2,ae (by have:=HK.out;omega),by go_num,rfl,ae ?_,X5⟩;have:=HO5.out;rw [rQ,avgR,HL.out,<-HT.out,HPQ.out];exact this
  ·have hkn:n=k:=by have:=HK.out;omega
   subst hkn
   go_wp2
   refine bodyPost_ret (v:=.tuple #[.slice a1 n1 p1,.bool true]) (by simp [results,Tryz.results214,go_sem]) rfl ⟨⟨_,rfl,by unfold shapL;rw [shapT_ok _ HVV.out,Int.toNat_natCast];exact HOK.out.mono (by omega)⟩,HX.out.trans HX2.out⟩
end Go.Proofs.YthjjfkeacobikaaGreat
