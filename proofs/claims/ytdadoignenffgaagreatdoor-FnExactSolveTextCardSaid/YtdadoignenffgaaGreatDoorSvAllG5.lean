import Derived.Test.YtdadoignenffgaaGreatDoorSvAllG2
import Derived.Test.YtdadoignenffgaaGreatDoorSvAllG1
import Derived.Test.YtdadoignenffgaaGreatDoorSvAllG3
import Derived.Test.YtdadoignenffgaaGreatDoorSvAllG4
import Derived.Test.YtdadoignenffgaaGreatDoorSvAllG0
set_option linter.unusedVariables false
set_option linter.unusedSimpArgs false
namespace Go.Proofs.YtdadoignenffgaaGreatDoor
variable{w:World}{n:Nat}{l:j7}{a:j6}
set_option maxHeartbeats 16000000
set_option maxRecDepth 100000
open Go.RowKit
theorem fk {w: World}(n : Int)(h0 : -1000000000000000000 <= n)(h1 : n <= 1000000000000000000)(ht : Lib.TabIs Tryz.prog w "internal/strconv.uint64pow10" .u64 Lib.pow10Tab) :
 Calls Tryz.prog 23 #[.int .i64 n] w fun e w'=>e=.returned (.string (bs (Lib.itoa n)))/\Ext w w':=by
 have HC:=ae (Any.strconv_Itoa ph n e7 e7 w ht);go_enter Tryz.func23,Tryz.ntmps23
 go_wp2_with fail;refine HC.o.mono ?_;rintro e w' ⟨rfl,k,os,rfl⟩;have HX:=ae (show Ext w _ from Lib.below_grow _ w (Nat.le_refl _) k os);obtain⟨W,hW⟩:=b9 (Sort.grow (w.drewN k) os);rw[<-hW]at HX;rw[<-hW];clear hW;go_wp2_with fail;go_ret;exact⟨rfl,HX.o⟩
theorem mU(h:n<=1000000000000000000):(Lib.decDigits n).length<=21:=by
 have:=Lib.itoa_length_le (n:Int) e7 e7
 rwa [Lib.itoa_nonneg]at this
theorem pN(n:Nat)(hn:n<=1000000000000000000):
 Calls Tryz.prog 16 #[.int .i64 (n:Int)] w fun e w'=>e=.returned (.string (bs (Lib.decDigits n)))/\Ext w w':=by
 by_cases h0:n=0
 ·subst h0;have HZ:=ae (show bs (Lib.decDigits 0)={ data:=#[48] } by rw[Lib.decDigits_one e7];rfl);go_enter Tryz.func16,Tryz.ntmps16
  go_wp2_with fail;go_ret;exact⟨bS HZ.o.symm,Ext.refl _⟩
 have hz:((n:Int) == 0)=false:=by simp;omega
 have P3:¬(n:Int)<0:=by omega
 have HL:=ae (mU hn);have HD:=ae (show zK n++[]=Lib.decDigits n by unfold zK;rw[if_neg h0,List.append_nil]);go_enter Tryz.func16,Tryz.ntmps16
 go_wp2_with fail
 go_loopg [0,4] n (fun gk nn oo wr=>∃(m:Nat) (l:List UInt8),b7 (m<=gk)/\nn=.int .i64 (m:Int)/\oo=.string (bs l)/\b7 (zK m++l=Lib.decDigits n)/\b7 (Ext w wr)/\b7 (m<=1000000000000000000))
 case atStart=>exact⟨n,[],ae (Nat.le_refl _),rfl,rfl,HD,ae (Ext.refl _),ae hn⟩
 case round =>
  obtain⟨g1,I⟩:=b9 gk;subst I;obtain⟨wr,G⟩:=b9 wr;subst G;obtain⟨m,l,HM,rfl,rfl,E,HX,J⟩:=hrel;by_cases Cu:m=0
  ·subst Cu;have HF:=ae (show bs l=bs (Lib.decDigits n)by rw[<-E.o];rfl);go_wp2_with fail;go_ret;exact⟨bS HF.o,HX.o⟩
  ·have M4:((m:Int) != 0)=true:=by simp;omega
   have hm6:m<=1000000000000000000:=J.o;have K:Int.tmod (m:Int) 10=((m % 10:Nat):Int):=by rw[Int.tmod_eq_emod_of_nonneg e7];omega
   have hdiv:Int.tdiv (m:Int) 10=((m/10:Nat):Int):=by rw[Int.tdiv_eq_ediv_of_nonneg e7];omega
   obtain⟨d,hd⟩:=b9 (m % 10);obtain⟨q,hq⟩:=b9 (m/10);rw[<-hd]at K;rw[<-hq]at hdiv;have TB:d<10:=by omega
   obtain⟨x,hx⟩:=b9 (UInt8.ofNat (48+d));have HS:=ae (show zK m=zK q++[x]by rw[hx,hd,hq];exact ji Cu);have hqm:q<m:=by omega
   have RK:l.length<=21:=by
    have h1:=HL.o;rw[<-E.o,List.length_append]at h1;omega
   have Ni:¬(d:Int)<0:=by omega
   have FV:IntKind.u8.wrap (48+(d:Int))=48+(d:Int):=by rw[IntKind.wrap_u8];omega
   have Cn:IntKind.i64.wrap (48+(d:Int))=48+(d:Int):=by rw[IntKind.wrap_i64];omega
   have hwq:IntKind.i64.wrap (q:Int)=(q:Int):=by rw[IntKind.wrap_i64];omega
   have hcv:=gL (w:=wr) x (y:=48+(d:Int)) (by rw[hx,UInt8.toNat_ofNat'];omega);have F6:¬9223372036854775807<(bs [x]).size+(bs l).size:=by rw[aQ,aQ];simp;omega
   have HA:=ae (bG [x] l);clear hd hq hx;clear Cu;go_wp2_with fail;rw[HA.o]
   go_roundg (g1-1)
   case measure=>have:=HM.o;omega
   case rel=>exact⟨q,[x]++l,ae (j1 HM.o),rfl,rfl,ae (by rw[<-List.append_assoc,<-HS.o];exact E.o),ae (HX.o.trans (Ext.alloc _ _)),ae e7⟩
theorem pM(n:Nat)(h1n:1<=n)(hn:n<=1000000000000000000):
 Calls Tryz.prog 16 #[.int .i64 (-(n:Int))] w fun e w'=>e=.returned (.string (bs (45::Lib.decDigits n)))/\Ext w w':=by
 have hz:(-(n:Int) == 0)=false:=by simp;omega
 have P3:-(n:Int)<0:=by omega
 have HL:=ae (mU hn);have HD:=ae (show zK n++[]=Lib.decDigits n by unfold zK;rw[if_neg e7,List.append_nil]);go_enter Tryz.func16,Tryz.ntmps16
 go_wp2_with fail
 go_loopg [0,4] n (fun gk nn oo wr=>∃(m:Nat) (l:List UInt8),b7 (m<=gk)/\nn=.int .i64 (-(m:Int))/\oo=.string (bs l)/\b7 (zK m++l=Lib.decDigits n)/\b7 (Ext w wr)/\b7 (m<=1000000000000000000))
 case atStart=>exact⟨n,[],ae (Nat.le_refl _),rfl,rfl,HD,ae (Ext.refl _),ae hn⟩
 case round =>
  obtain⟨g1,J⟩:=b9 gk;subst J;obtain⟨wr,I⟩:=b9 wr;subst I;obtain⟨m,l,HM,rfl,rfl,E,HX,K⟩:=hrel;have RK:l.length<=21:=by
   have h1:=HL.o;rw[<-E.o,List.length_append]at h1;omega
  by_cases Cu:m=0
  ·subst Cu;have XI:(-((0:Nat):Int) != 0)=false:=by decide
   have HF:=ae (show(⟨#[45]⟩:ByteArray)++bs l=bs (45::Lib.decDigits n)by rw[<-E.o];exact bG [45] l);have O:¬9223372036854775807<(⟨#[45]⟩:ByteArray).size+(bs l).size:=by rw[aQ];show¬9223372036854775807<1+l.length;omega
   go_wp2_with fail;go_ret;exact⟨bS HF.o,HX.o⟩
  ·have M4:(-(m:Int) != 0)=true:=by simp;omega
   have hm6:m<=1000000000000000000:=K.o;have G:Int.tmod (-(m:Int)) 10=-((m % 10:Nat):Int):=by rw[Int.neg_tmod,Int.tmod_eq_emod_of_nonneg e7];omega
   have hdiv:Int.tdiv (-(m:Int)) 10=-((m/10:Nat):Int):=by rw[Int.neg_tdiv,Int.tdiv_eq_ediv_of_nonneg e7];omega
   obtain⟨d,hd⟩:=b9 (m % 10);obtain⟨q,hq⟩:=b9 (m/10);rw[<-hd]at G;rw[<-hq]at hdiv;have TB:d<10:=by omega
   obtain⟨x,hx⟩:=b9 (UInt8.ofNat (48+d));have HS:=ae (show zK m=zK q++[x]by rw[hx,hd,hq];exact ji Cu);have hqm:q<m:=by omega
   have FV:IntKind.u8.wrap (48+(d:Int))=48+(d:Int):=by rw[IntKind.wrap_u8];omega
   have Cn:IntKind.i64.wrap (48+(d:Int))=48+(d:Int):=by rw[IntKind.wrap_i64];omega
   have hwq:IntKind.i64.wrap (-(q:Int))=-(q:Int):=by rw[IntKind.wrap_i64];omega
   have D7:=ae (show(x.toNat:Int)=48+(d:Int)by rw[hx,UInt8.toNat_ofNat'];omega);have O:¬9223372036854775807<(bs [x]).size+(bs l).size:=by rw[aQ,aQ];simp;omega
   have HA:=ae (bG [x] l);clear hq hx Cu;by_cases Q:d=0
   ·subst Q;have WK:IntKind.i64.wrap (-((0:Nat):Int))=((0:Nat):Int):=by decide
    have Ni:¬((0:Nat):Int)<0:=by omega
    have XI:Int.tmod (-(m:Int)) 10=((0:Nat):Int):=by rw[G];rfl
    have hcv:=gL (w:=wr) x (y:=48) (j1 D7.o);clear hd G;go_wp2_with fail;rw[HA.o]
    go_roundg (g1-1)
    case measure=>have:=HM.o;omega
    case rel=>exact⟨q,[x]++l,ae (j1 HM.o),rfl,rfl,ae (by rw[<-List.append_assoc,<-HS.o];exact E.o),ae (HX.o.trans (Ext.alloc _ _)),ae e7⟩
   ·have Ni:-(d:Int)<0:=by omega
    have hwd:IntKind.i64.wrap (-(d:Int))=-(d:Int):=by rw[IntKind.wrap_i64];omega
    have FU:IntKind.i64.wrap (0 - -(d:Int))=(d:Int):=by rw[IntKind.wrap_i64];omega
    have hcv:=gL (w:=wr) x (y:=48+(d:Int)) D7.o;clear hd;go_wp2_with fail;rw[HA.o]
    go_roundg (g1-1)
    case measure=>have:=HM.o;omega
    case rel=>exact⟨q,[x]++l,ae (j1 HM.o),rfl,rfl,ae (by rw[<-List.append_assoc,<-HS.o];exact E.o),ae (HX.o.trans (Ext.alloc _ _)),ae e7⟩
theorem eI(n:Int)(h0:-1000000000000000000<=n)(h1:n<=1000000000000000000):
 Calls Tryz.prog 16 #[.int .i64 n] w fun e w'=>e=.returned (.string (bs (Lib.itoa n)))/\Ext w w':=by
 by_cases hn:n<0
 ·obtain⟨k,rfl⟩:∃k:Nat,n=-(k:Int):=⟨n.natAbs,by omega⟩;rw[Lib.itoa_neg k e7];exact pM k e7 e7
 ·obtain⟨k,rfl⟩:∃k:Nat,n=(k:Int):=⟨n.toNat,by omega⟩;rw[Lib.itoa_nonneg];exact pN k e7
def aH(p:Int)(l:j7):Bool:=l.all (fun x=>r' x (-500) 500)&&(r' p 1 5&&(decide ((l.length:Int)=Ae p)&&decide (l[0]?.getD 0=0)))
theorem bF{p:Int}(h:aH p l=true):∃n:Nat,p=n/\1<=n/\n<=5/\l.length=cN n/\l[0]?.getD 0=0/\∀x∈l,-500<=x/\x<=500:=by
 unfold aH at h;simp only[Bool.and_eq_true,decide_eq_true_eq]at h;obtain⟨ha,hp,hl,h0⟩:=h;have hb:1<=p/\p<=5:=by unfold r' at hp;simpa using hp
 refine⟨p.toNat,by omega,by omega,by omega,?_,h0,?_⟩
 ·have:p=(p.toNat:Int):=by omega
  rw[this,iH _ e7]at hl;omega
 ·intro x hx;have:=List.all_eq_true.1 ha x hx;unfold r' at this
  simpa using this
theorem dU{p:Int}{cap:Nat}(h:Ints w a n cap l):
 Calls Tryz.prog 39 #[pair p a n cap] w fun e w'=>e=.returned (.bool (aH p l))/\Ext w w':=by
 have h1:=h.alloc (.cells #[.int .i64 p,.slice a n cap] 32);have hn:=h.l8;have hm:=h.o0;have HL:=ae h.hlen;clear h;go_enter Tryz.func39,Tryz.ntmps39
 go_wp2
 go_loop [3] (fun i=>∃k:Nat,k<=n/\i=.int .i64 k/\(l.take k).all (fun x=>r' x (-500) 500)=true) (fun i=>n-(intOf i).toNat)
 case atStart=>exact⟨0,Nat.zero_le _,rfl,rfl⟩
 case round =>
  obtain⟨k,hk,rfl,zF⟩:=hrel;have HA:=ae zF;clear zF;by_cases hlt:k<n
  ·obtain⟨b,off,rfl,hc⟩:=h1.at hlt;cases hb:r' (l[k]?.getD 0) (-500) 500
   ·have HB:=ae hb;go_wp2_with (first|(go_at_call 45;refine(bm _ _ _ _).mono ?_;rintro e w' ⟨rfl,rfl⟩));go_ret;refine⟨ai ?_,Ext.alloc _ _⟩
    symm
    unfold aH;cases hx:l.all (fun x=>r' x (-500) 500)
    ·rfl
    ·have:=qW hx (k:=k) (j1 HL.o);rw[HB.o]at this;cases this
   ·have HB:=ae hb;go_wp2_with (first|(go_at_call 45;refine(bm _ _ _ _).mono ?_;rintro e w' ⟨rfl,rfl⟩))
    go_round
    case rel=>exact⟨k+1,by omega,by go_num,by rw[cH (j1 HL.o),List.all_append,HA.o];simpa using HB.o⟩
    case measure=>simp[intOf];omega
  ·have E:k=l.length:=by have:=HL.o;omega
   have zF:=HA.o;rw[E,List.take_length]at zF;have G:=ae zF;clear zF E;cases hp:r' p 1 5
   ·have HP:=ae hp
    go_wp2
    go_quiet ((first|(go_at_call 45;exact bK (bm _ _ _ _))|(go_at_call 99;exact bK (dK _ _))))
    go_wp2
    go_ret;exact⟨ai (by unfold aH;rw[G.o,HP.o];rfl),below_drewN (Ext.alloc _ _) _⟩
   ·have HP:=ae hp;cases hl:((n:Int) == Ae p)
    ·have HE:=ae hl
     go_wp2
     go_quiet ((first|(go_at_call 45;exact bK (bm _ _ _ _))|(go_at_call 99;exact bK (dK _ _))))
     go_wp2
     go_ret;refine⟨ai ?_,below_drewN (Ext.alloc _ _) _⟩;have:¬((l.length:Int)=Ae p):=by rw[HL.o];have:=HE.o;simpa using this
     unfold aH;rw[decide_eq_false this];simp
    ·have HE:=ae hl;have I:0<n:=by
      have h1:1<=p/\p<=5:=by unfold r' at hp;simpa using hp
      have h2:(n:Int)=Ae p:=by simpa using hl
      unfold Ae at h2;rw[if_pos (by unfold r';simp;omega)]at h2;have:=eR p.toNat;omega
     obtain⟨b,off,rfl,hc⟩:=h1.at I;rw[Nat.add_zero]at hc
     go_wp2
     go_quiet ((first|(go_at_call 45;exact bK (bm _ _ _ _))|(go_at_call 99;exact bK (dK _ _))))
     go_wp2
     go_ret;refine⟨ai ?_,below_drewN (Ext.alloc _ _) _⟩;have he:(l.length:Int)=Ae p:=by rw[HL.o];have:=HE.o;simpa using this
     unfold aH;rw[G.o,HP.o,decide_eq_true he];rw[Bool.eq_iff_iff];simp
theorem mw(x:Int)(w:World):Calls Tryz.prog 121 #[.int .i64 x] w fun e w'=>e=.returned (.bool (!r' x (-500) 500))/\w=w':=by
 go_enter Tryz.func121,Tryz.ntmps121
 go_wp2_with (first|(go_at_call 61;refine(aJ _ _ _ _).mono ?_;rintro e w' ⟨rfl,rfl⟩));go_ret;exact⟨rfl,rfl⟩
theorem lD:IsGo Tryz.prog 121:=isGo Tryz.func121 e9 e9
theorem jV(w:World):Eo Tryz.prog w 121 #[] (fun x=>!r' x (-500) 500) :=
 fun x w1 _=>(mw x w1).mono fun e w' ⟨he,hw⟩=>⟨he,hw▸Ext.refl _⟩
theorem ga(p:Int)(l:j7):aH p l=(r' p 1 5&&(decide ((l.length:Int)=Ae p)&&(decide (l[0]?.getD 0=0)&&!l.any (fun x=>!r' x (-500) 500)))):=by
 unfold aH;have:(!l.any (fun x=>!r' x (-500) 500))=l.all (fun x=>r' x (-500) 500):=by rw[List.not_any_eq_all_not];simp
 rw[this];cases l.all (fun x=>r' x (-500) 500)<;>simp
theorem dR{p:Int}{cap:Nat}(h:Ints w a n cap l):
 Calls Tryz.prog 64 #[pair p a n cap] w fun e w'=>e=.returned (.bool (aH p l))/\Ext w w':=by
 have h1:=h.alloc (.cells #[.int .i64 p,.slice a n cap] 32);have HX:=ae (Ext.alloc w (.cells #[.int .i64 p,.slice a n cap] 32));have hn:=h.l8;have hm:=h.o0;have HL:=ae h.hlen;clear h;cases hp:r' p 1 5
 ·have HP:=ae hp;go_enter Tryz.func64,Tryz.ntmps64
  go_wp2
  go_quiet ((first|(go_at_call 61;exact bK (aJ _ _ _ _))))
  go_wp2
  go_ret;exact⟨ai (by rw[ga,HP.o];rfl),below_drewN (Ext.alloc _ _) _⟩
 ·have HP:=ae hp;obtain⟨m,rfl⟩:∃m:Nat,p=m:=⟨p.toNat,by unfold r' at hp;simp at hp;omega⟩;have J:1<=m/\m<=5:=by unfold r' at hp;simp at hp;omega
  obtain⟨J,G⟩:=J;have JN:IntKind.i64.wrap ((2:Int)^m)=(cN m:Int):=by
   have h1:=eR m;have h2:=fz m G;rw[IntKind.wrap_i64,gK];omega
  have PE:wrap64 ((2:Int)^m)=(cN m:Int):=(qt m G).trans (gK m).symm;have HC:=ae (iH m G);have hN:=cW m G;cases hl:((n:Int) != (cN m:Int))
  ·have E:n=cN m:=Int.ofNat.inj (show(n:Int)=(cN m:Int)by simpa using hl);have I:=ae E;have K:0<n:=by omega
   obtain⟨b,off,rfl,hc⟩:=h1.at K;rw[Nat.add_zero]at hc;clear E;cases h0:(l[0]?.getD 0 != 0)
   ·have HZ:=ae h0;have HI:=ae h1;go_enter Tryz.func64,Tryz.ntmps64
    go_wp2
    go_quiet ((first|(go_at_call 61;exact bK (aJ _ _ _ _))))
    go_wp2_with fail;refine(ei (HI.o.drewN _) lD (jV _)).mono ?_;rintro e w1 ⟨rfl,hx⟩
    go_wp2
    go_ret;refine⟨ai ?_,Ext.trans (below_drewN HX.o _) hx⟩;rw[ga,HP.o,HC.o,HL.o,I.o,decide_eq_true rfl];have:l[0]?.getD 0=0:=by simpa using HZ.o
    rw[decide_eq_true this]
    rfl
   ·have HZ:=ae h0;go_enter Tryz.func64,Tryz.ntmps64
    go_wp2
    go_quiet ((first|(go_at_call 61;exact bK (aJ _ _ _ _))))
    go_wp2
    go_ret;refine⟨ai ?_,below_drewN HX.o _⟩;have:¬(l[0]?.getD 0=0):=by simpa using HZ.o
    rw[ga,decide_eq_false this];simp
  ·have FE:=ae hl;go_enter Tryz.func64,Tryz.ntmps64
   go_wp2
   go_quiet ((first|(go_at_call 61;exact bK (aJ _ _ _ _))))
   go_wp2
   go_ret;refine⟨ai ?_,below_drewN HX.o _⟩;have:¬((l.length:Int)=Ae (m:Int)):=by rw[HL.o,HC.o];have:=FE.o;simpa using this
   rw[ga,decide_eq_false this];simp
theorem ri(h:n<=1000000):(Lib.decDigits n).length<=21:=by
 have:=Lib.itoa_length_le (n:Int) e7 e7
 rwa [Lib.itoa_nonneg]at this
theorem kH{n:Int}(h:-1000000<=n/\n<=1000000):(Lib.itoa n).length<=21:=Lib.itoa_length_le n e7 e7
def gl(V:j7)(k:Nat):List UInt8:=if V[k]?.getD 0=0 then [] else cg (k:Int)++([32]++(Lib.itoa (V[k]?.getD 0)++[10]))
def bZ(V:j7)(m:Nat):List UInt8:=(List.range m).flatMap (gl V)
theorem ez(V:j7)(m:Nat):bZ V (m+1)=bZ V m++gl V m:=by
 unfold bZ;rw[List.range_succ,List.flatMap_append];simp
def ep(p:Nat):List UInt8:=[112,108,97,121,101,114,115,32]++(Lib.decDigits p++[10])
theorem iP{V:j7}(E:∀k:Nat,-1000000<=V[k]?.getD 0/\V[k]?.getD 0<=1000000):∀m,(bZ V m).length<=40*m
 | 0=>by simp[bZ]
 | m+1=>by
   rw[ez,List.length_append];have h1:=iP E m;have h2:(gl V m).length<=40:=by
    unfold gl
    split
    ·simp
    ·have h3:=jg (m:Int);have h4:=kH (E m);simp only[List.length_append,List.length_cons,List.length_nil];omega
   omega
def dq(p:Nat)(V:j7):List UInt8:=if aH (p:Int) V=true then ep p++bZ V V.length else []
theorem pL{p:Nat}{cap:Nat}{V:j7}(h:Ints w a n cap V)(Q:∀k:Nat,-1000000<=V[k]?.getD 0/\V[k]?.getD 0<=1000000):
 Calls Tryz.prog 34 #[pair (p:Int) a n cap] w fun e w'=>e=.returned (.string (bs (dq p V)))/\Ext w w':=by
 obtain⟨W,hW⟩:=b9 (w.alloc (.cells #[.int .i64 (p:Int),.slice a n cap] 32));have De:Ext w W:=by rw[hW];exact Ext.alloc _ _
 have Ey:=ae De;have HI:=ae (h.ext De);have l8:=h.l8;have o0:=h.o0;have HL:=ae h.hlen;have G0:=ae (show W.cell? ⟨w.heap.size,0,none⟩=some (.int .i64 (p:Int))by rw[hW];simp);have I:=ae (show W.cell? ⟨w.heap.size,1,none⟩=some (.slice a n cap)by rw[hW];simp);have HV:=ae Q;have J:=ae (dU (p:=(p:Int)) HI.o);cases wj:aH (p:Int) V
 ·rw[wj]at J;have HF:=ae (show bs (dq p V)={ data:=#[] } by unfold dq;rw[wj];rfl);clear h De Q wj;have g0:=G0.o;have g1:=I.o;go_enter Tryz.func34,Tryz.ntmps34
  go_upto_region 1 with fail;rw[<-hW];clear hW;go_wp2_with fail;refine J.o.mono ?_;rintro e w1 ⟨rfl,hx⟩;have X1:=ae hx;clear hx;go_wp2_with fail;go_ret;exact⟨bS HF.o.symm,Ey.o.trans X1.o⟩
 ·rw[wj]at J;obtain⟨q,hq,Ao,CU,hlen,JQ,_⟩:=bF wj;have Uo:=ae JQ;obtain rfl:p=q:=by omega
  have BS:n<=32:=by rw[<-HL.o,hlen];exact(cW p CU).2
  have zv:1<=n:=by rw[<-HL.o,hlen];exact(cW p CU).1
  have HF:=ae (show dq p V=ep p++bZ V n by unfold dq;rw[if_pos wj,HL.o]);have H7:=ae (iP (V:=V) Q);have HP:=ae (fun w'=>qR (w:=w') p e7);have BD:=ae (ri (n:=p) e7);clear h De Q wj hq hlen JQ;have g0:=G0.o;have g1:=I.o;go_enter Tryz.func34,Tryz.ntmps34
  go_upto_region 1 with fail;rw[<-hW];clear hW;go_wp2_with fail;refine J.o.mono ?_;rintro e w1 ⟨rfl,hx⟩;have X1:=ae hx;clear hx g0 g1;have g0:=X1.o.j9 G0.o;have g1:=X1.o.j9 I.o;go_wp2_with fail;refine(HP.o _).mono ?_;rintro e w2 ⟨rfl,hx⟩;have X2:=ae (X1.o.trans hx);clear hx g0 g1;have g1:=X2.o.j9 I.o;obtain⟨td,Gz⟩:=b9 (bs (Lib.decDigits p));have R7:=ae Gz;have hts:td.size<=21:=by rw[Gz,aQ];exact BD.o
  rw[<-Gz];clear Gz;go_wp2_with fail
  have xh:=ae (show({ data:=#[112,108,97,121,101,114,115,32] }:ByteArray)++td++{ data:=#[10] }=bs (ep p++bZ V 1)by
   have h1:bZ V 1=[]:=by rw[show(1:Nat)=0+1 from rfl,ez];unfold gl;rw[if_pos Uo.o];rfl
   rw[h1,List.append_nil,R7.o];unfold ep;rw[<-bG,<-bG,<-ByteArray.append_assoc]
   rfl)
  rw[xh.o];clear g1
  go_loopg [3,4] n (fun gk oo kk wr=>∃(k:Nat),b7 (gk+k=n+1)/\kk=.int .i64 (k:Int)/\oo=.string (bs (ep p++bZ V k))/\b7 (Ext W wr)/\b7 (1<=k/\k<=n))
  case atStart=>exact⟨1,ae rfl,rfl,rfl,X2,ae ⟨Nat.le_refl _,zv⟩⟩
  case round =>
   obtain⟨g1,o6⟩:=b9 gk;subst o6;obtain⟨wr,wR⟩:=b9 wr;subst wR;obtain⟨k,HK,rfl,rfl,HX,HB⟩:=hrel;obtain⟨yx,vZ⟩:=HB.o;have q1:=HX.o.j9 I.o;by_cases hlt:k<n
   ·obtain⟨b,off,rfl,hc⟩:=(HI.o.ext HX.o).at hlt;have Aq:(k:Int)<(n:Int):=by omega
    have BU:(0:Int)<=(k:Int):=by omega
    obtain⟨v,hv⟩:∃v:Int,V[k]?.getD 0=v:=⟨_,rfl⟩;have WL:-1000000<=v/\v<=1000000:=by rw[<-hv];exact HV.o k
    rw[hv]at hc;by_cases G5:v=0
    ·subst G5;have HS:=ae (show bZ V (k+1)=bZ V k by rw[ez];unfold gl;rw[hv,if_pos rfl,List.append_nil]);clear hv;go_wp2_with fail
     go_roundg (g1-1)
     case measure=>have:=HK.o;omega
     case rel=>exact⟨k+1,ae (j1 HK.o),by go_num,by rw[HS.o],HX,ae e7⟩
    ·have HS:=ae (show bZ V (k+1)=bZ V k++(cg (k:Int)++([32]++(Lib.itoa v++[10])))by rw[ez];unfold gl;rw[hv,if_neg G5]);have hvz:(v != 0)=true:=by simp[G5]
     have Fp:=ae (fun w'=>fV (w:=w') k e7);have L6:=ae (fun w'=>eI (w:=w') v e7 e7);obtain⟨G,U⟩:=b9 (bs (cg (k:Int)));obtain⟨O,JU⟩:=b9 (bs (Lib.itoa v));obtain⟨E,Z⟩:=b9 (bs (ep p++bZ V k));have hcs:G.size<=5:=by rw[U,aQ];exact jg _
     have his:O.size<=21:=by rw[JU,aQ];exact kH WL
     have hos:E.size<=2000:=by
      rw[Z,aQ,List.length_append];have h1:=H7.o k;have h2:=BD.o;unfold ep;simp only[List.length_append,List.length_cons,List.length_nil];omega
     have Ro:=ae (show E++G++{ data:=#[32] }++O++{ data:=#[10] }=bs (ep p++bZ V (k+1))by
      rw[Z,U,JU]
      show bs _++bs _++bs [32]++bs _++bs [10]=_;rw[bG,bG,bG,bG,HS.o]
      simp only[List.append_assoc])
     have Kh:¬9223372036854775807<E.size+G.size:=by omega
     have Iq:¬9223372036854775807<E.size+G.size+1:=by omega
     have hf3:¬9223372036854775807<E.size+G.size+1+O.size:=by omega
     have hf4:¬9223372036854775807<E.size+G.size+1+O.size+1:=by omega
     simp only[<-U]at Fp;simp only[<-JU]at L6;rw[<-Z];clear hv U JU Z;go_wp2_with fail;have k7:Ext wr wr.drew:=Ext.drew wr;have k8:=ae (fun(w':World) (h:Ext wr w')=>(⟨h.j9 q1,h.j9 hc⟩:w'.cell? ⟨w.heap.size,1,none⟩=some (.slice (some ⟨b,off,none⟩) n cap)/\w'.cell? ⟨b,off+k,none⟩=some (.int .i64 v)));refine wp_region_held_drew (S:=(fun w'=>w'.cell? ⟨w.heap.size,1,none⟩=some (.slice (some ⟨b,off,none⟩) n cap)/\w'.cell? ⟨b,off+k,none⟩=some (.int .i64 v))) e9 ?_ (fun k9=>?_)
     ·exact k8.o _ k7
     refine tk 0 ?_;refine tk 1 ?_;refine tk 5 ?_;refine tk 6 ?_;refine tk 7 ?_;refine tk 8 ?_;refine tk 9 ?_;refine rd (i:=2) (h:=fun K hK=>?_);go_simp
     (go_at_call 93;refine(Fp.o _).mono ?_;rintro e w3 ⟨rfl,vj⟩;have k7:=k7.trans vj)
     go_wp2_with fail;refine hK.out _ _ ?_ (fun k9=>?_)
     ·exact k8.o _ k7
     clear hK K
     try simp only[Act.put,sA,sB,sC]
     refine tk 3 ?_;refine tk 4 ?_;refine rd (i:=10) (h:=fun K hK=>?_);go_simp
     (go_at_call 16;refine(L6.o _).mono ?_;rintro e w3 ⟨rfl,vj⟩;have k7:=k7.trans vj)
     go_wp2_with fail;refine hK.out _ _ ?_ (fun k9=>?_)
     ·exact k8.o _ k7
     clear hK K
     try simp only[Act.put,sA,sB,sC]
     refine tk 11 ?_;refine tk 12 ?_;refine tk 13 ?_;refine wpAnyH_done e9 ?_ _;have wF:=ae (HX.o.trans k7);clear k7 k9 hc q1;rw[Ro.o];go_wp2_with fail
     go_roundg (g1-1)
     case measure=>have:=HK.o;omega
     case rel=>exact⟨k+1,ae (j1 HK.o),by go_num,rfl,wF,ae e7⟩
   ·have E4:n=k:=by omega
    subst E4;go_wp2_with fail;go_ret;exact⟨bS (by rw[HF.o]),Ey.o.trans HX.o⟩
theorem oU {w: World}{p: Nat}{a: Option Addr}{n cap: Nat}{V: List Int}(h : Ints w a n cap V)(hV : ∀ k : Nat, -1000000 <= V[k]?.getD 0 /\ V[k]?.getD 0 <= 1000000)(ht : Lib.TabIs Tryz.prog w "internal/strconv.uint64pow10" .u64 Lib.pow10Tab) :
 Calls Tryz.prog 32 #[pair (p:Int) a n cap] w fun e w'=>e=.returned (.string (bs (dq p V)))/\Ext w w':=by
 obtain⟨W,hW⟩:=b9 (w.alloc (.cells #[.int .i64 (p:Int),.slice a n cap] 32));have De:Ext w W:=by rw[hW];exact Ext.alloc _ _
 have Ey:=ae De;have HT:=ae (fun(w':World) (hx:Ext W w')=>eS ht (De.trans hx));have HI:=ae (h.ext De);have l8:=h.l8;have o0:=h.o0;have HL:=ae h.hlen;have G0:=ae (show W.cell? ⟨w.heap.size,0,none⟩=some (.int .i64 (p:Int))by rw[hW];simp);have G1:=ae (show W.cell? ⟨w.heap.size,1,none⟩=some (.slice a n cap)by rw[hW];simp);have HV:=ae hV;have xN:=ae (dR (p:=(p:Int)) HI.o);cases wj:aH (p:Int) V
 ·rw[wj]at xN;have HF:=ae (show bs (dq p V)={ data:=#[] } by unfold dq;rw[wj];rfl);clear h De hV wj ht;have g0:=G0.o;have g1:=G1.o;go_enter Tryz.func32,Tryz.ntmps32
  go_upto_region 1 with fail;rw[<-hW];clear hW;go_wp2_with fail;refine xN.o.mono ?_;rintro e w1 ⟨rfl,hx⟩;have X1:=ae hx;clear hx;go_wp2_with fail;go_ret;exact⟨bS HF.o.symm,Ey.o.trans X1.o⟩
 ·rw[wj]at xN;obtain⟨q,hq,Ao,CU,hlen,JQ,_⟩:=bF wj;have Uo:=ae JQ;obtain rfl:p=q:=by omega
  have BS:n<=32:=by rw[<-HL.o,hlen];exact(cW p CU).2
  have HF:=ae (show dq p V=ep p++bZ V n by unfold dq;rw[if_pos wj,HL.o]);have H7:=ae (iP (V:=V) hV);have HP:=ae (fun(w':World) (hx:Ext W w')=>qH (w:=w') p e7 (HT.o w' hx));have BD:=ae (ri (n:=p) e7);clear h De hV wj hq hlen JQ ht;have g0:=G0.o;have g1:=G1.o;go_enter Tryz.func32,Tryz.ntmps32
  go_upto_region 1 with fail;rw[<-hW];clear hW;go_wp2_with fail;refine xN.o.mono ?_;rintro e w1 ⟨rfl,hx⟩;have X1:=ae hx;clear hx g0 g1;have g0:=X1.o.j9 G0.o;have g1:=X1.o.j9 G1.o;go_wp2_with fail;refine(HP.o _ X1.o).mono ?_;rintro e w2 ⟨rfl,hx⟩;have X2:=ae (X1.o.trans hx);clear hx g0 g1;have g1:=X2.o.j9 G1.o;obtain⟨td,Gz⟩:=b9 (bs (Lib.decDigits p));have R7:=ae Gz;have hts:td.size<=21:=by rw[Gz,aQ];exact BD.o
  rw[<-Gz];clear Gz;go_wp2_with fail
  have xh:=ae (show({ data:=#[112,108,97,121,101,114,115,32] }:ByteArray)++td++{ data:=#[10] }=bs (ep p++bZ V 0)by
   rw[R7.o];unfold ep;rw[show bZ V 0=[]from rfl,List.append_nil,<-bG,<-bG,<-ByteArray.append_assoc]
   rfl)
  rw[xh.o];clear g1
  go_loopg [3,17] n (fun gk oo kk wr=>∃(k:Nat),b7 (gk+k=n)/\kk=.int .i64 (k:Int)/\oo=.string (bs (ep p++bZ V k))/\b7 (Ext W wr))
  case atStart=>exact⟨0,ae e7,rfl,rfl,X2⟩
  case round =>
   obtain⟨g1,o6⟩:=b9 gk;subst o6;obtain⟨wr,wR⟩:=b9 wr;subst wR;obtain⟨k,HK,rfl,rfl,HX⟩:=hrel;have vZ:=HK.o;by_cases hlt:k<n
   ·obtain⟨b,off,rfl,hc⟩:=(HI.o.ext HX.o).at hlt;have Aq:(k:Int)<(n:Int):=by omega
    have BU:(0:Int)<=(k:Int):=by omega
    obtain⟨v,hv⟩:∃v:Int,V[k]?.getD 0=v:=⟨_,rfl⟩;have WL:-1000000<=v/\v<=1000000:=by rw[<-hv];exact HV.o k
    rw[hv]at hc;by_cases G5:v=0
    ·subst G5;have HS:=ae (show bZ V (k+1)=bZ V k by rw[ez];unfold gl;rw[hv,if_pos rfl,List.append_nil]);clear hv;go_wp2_with fail
     go_roundg (g1-1)
     case measure=>have:=HK.o;omega
     case rel=>exact⟨k+1,ae (j1 HK.o),by go_num,by rw[HS.o],HX⟩
    ·have HS:=ae (show bZ V (k+1)=bZ V k++(cg (k:Int)++([32]++(Lib.itoa v++[10])))by rw[ez];unfold gl;rw[hv,if_neg G5]);have hvz:(v != 0)=true:=by simp[G5]
     have Fp:=ae (fun w'=>fU (w:=w') k e7);have L6:=ae (fun(w':World) (hx:Ext W w')=>fk (w:=w') v e7 e7 (HT.o w' hx));obtain⟨tc,MS⟩:=b9 (bs (cg (k:Int)));obtain⟨ti,JU⟩:=b9 (bs (Lib.itoa v));obtain⟨tq,MQ⟩:=b9 (bs (ep p++bZ V k));have hcs:tc.size<=5:=by rw[MS,aQ];exact jg _
     have his:ti.size<=21:=by rw[JU,aQ];exact kH WL
     have hos:tq.size<=2000:=by
      rw[MQ,aQ,List.length_append];have h1:=H7.o k;have h2:=BD.o;unfold ep;simp only[List.length_append,List.length_cons,List.length_nil];omega
     have Ro:=ae (show tq++(tc++{ data:=#[32] }++ti++{ data:=#[10] })=bs (ep p++bZ V (k+1))by
      rw[MQ,MS,JU]
      show bs _++(bs _++bs [32]++bs _++bs [10])=_;rw[bG,bG,bG,bG,HS.o]
      simp only[List.append_assoc])
     simp only[<-MS]at Fp;simp only[<-JU]at L6;rw[<-MQ];clear hv MS JU MQ;go_wp2_with fail;refine(Fp.o _).mono ?_;rintro e w3 ⟨rfl,vj⟩;have vk:=ae (HX.o.trans vj);clear vj hc;go_wp2_with fail;refine(L6.o _ vk.o).mono ?_;rintro e w4 ⟨rfl,vW⟩;have xO:=ae (vk.o.trans vW);clear vW;go_wp2_with fail;rw[Ro.o]
     go_roundg (g1-1)
     case measure=>have:=HK.o;omega
     case rel=>exact⟨k+1,ae (j1 HK.o),by go_num,rfl,xO⟩
   ·have E4:n=k:=by omega
    subst E4;go_wp2_with fail;go_ret;exact⟨bS (by rw[HF.o]),Ey.o.trans HX.o⟩
def zm(t:List UInt8):Option Nat:=(List.range 32).find? fun s=>decide (cg (s:Int)=t)
def dZ(N:Nat)(last:Int)(l:List UInt8):Option (Nat×Int) :=
 if(vV 32 l).length=2 then
  match zm ((vV 32 l)[0]?.getD []),dw ((vV 32 l)[1]?.getD [])with
  | some s,some v=>if last<(s:Int)/\s<N/\v≠0/\-500<=v/\v<=500 then some (s,v) else none
  | _,_=>none
 else none
theorem kI{N:Nat}{last:Int}{l:List UInt8}{s:Nat}{v:Int}(h:dZ N last l=some (s,v)):last<(s:Int)/\s<N/\-500<=v/\v<=500:=by
 unfold dZ at h
 split at h
 ·split at h
  ·split at h
   ·next g =>
    simp only[Option.some.injEq,Prod.mk.injEq]at h;obtain⟨rfl,rfl⟩:=h;exact⟨g.1,g.2.1,g.2.2.2.1,g.2.2.2.2⟩
   ·cases h
  ·cases h
 ·cases h
def bP(N:Nat)(L:List (List UInt8)):Nat->Except Nat (j7×Int)
 | 0=>.ok (List.replicate N 0,0)
 | k+1=>match bP N L k with
   | .error e=>.error e
   | .ok st=>match dZ N st.2 (L[k]?.getD [])with
     | none=>.error (k+1)
     | some sv=>.ok (st.1.set sv.1 sv.2,(sv.1:Int))
theorem km{N:Nat}{L:List (List UInt8)}{k:Nat}{e:Nat}(h:bP N L k=.error e):∀d,bP N L (k+d)=.error e
 | 0=>h
 | d+1=>by
   show bP N L (k+d+1)=_;rw[bP,km h d]
theorem jw{N:Nat}{L:List (List UInt8)}:∀{k:Nat} {V:j7} {last:Int},bP N L k=.ok (V,last)->V.length=N/\0<=last/\(∀j:Nat,-500<=V[j]?.getD 0/\V[j]?.getD 0<=500)/\V[0]?.getD 0=0
 | 0,V,last,h=>by
   simp only[bP,Except.ok.injEq,Prod.mk.injEq]at h;obtain⟨rfl,rfl⟩:=h;have hz:∀j:Nat,(List.replicate N (0:Int))[j]?.getD 0=0:=fun j=>by
    rw[List.getElem?_replicate];split<;>rfl
   exact⟨by simp,by omega,fun j=>by rw[hz j];omega,hz 0⟩
 | k+1,V,last,h=>by
   rw[bP]at h;cases e:bP N L k with
   | error x=>rw[e]at h;cases h
   | ok st =>
     obtain⟨V0,G⟩:=st;rw[e]at h;obtain⟨i1,i2,i3,i4⟩:=jw e;cases e2:dZ N G (L[k]?.getD [])with
     | none=>simp only[e2]at h;cases h
     | some sv =>
       obtain⟨s,v⟩:=sv;simp only[e2,Except.ok.injEq,Prod.mk.injEq]at h;obtain⟨rfl,rfl⟩:=h;obtain⟨g1,g2,g3,g4⟩:=kI e2;refine⟨by rw[List.length_set,i1],by omega,fun j=>?_,?_⟩
       ·by_cases E:j=s
        ·subst E;rw[List.getElem?_set_self e7];exact⟨g3,g4⟩
        ·rw[List.getElem?_set_ne (fun e=>E e.symm)];exact i3 j
       ·rw[List.getElem?_set_ne e7];exact i4
def dg(t:List UInt8):List (List UInt8):=if(vV 10 t)[(vV 10 t).length-1]?.getD []=[] then(vV 10 t).take ((vV 10 t).length-1) else vV 10 t
def cJ(t:List UInt8):(Nat×j7)×Int :=
 if dg t=[] then((0,[]),0) else match cQ ((dg t)[0]?.getD [])with
  | none=>((0,[]),0)
  | some n=>match bP (2^n.toNat) ((dg t).drop 1) ((dg t).length-1)with
    | .error k=>((0,[]),(k:Int))
    | .ok st=>if dq n.toNat st.1=t then((n.toNat,st.1),-1) else((0,[]),((dg t).length:Int))
end Go.Proofs.YtdadoignenffgaaGreatDoor
