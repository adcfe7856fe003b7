import Derived.Test.YtdadoignenffgaaGreatDoorSvAllG6
import Derived.Deep.DeepCutAuto
import Derived.Deep.Cut
import Derived.Deep.RegionHeld3
import Derived.Outline
import Derived.Shelf.Strings.Prefix
import Derived.Shelf.Small.Wraps
import Derived.Shelf.Strings.OnBuilder
import Derived.Test.YtdadoignenffgaaGreatDoorProg
import Derived.Test.YtdadoignenffgaaGreatDoorSvAllG1
import Derived.Deep.RegionLaw
set_option linter.unusedVariables false
set_option linter.unusedSimpArgs false
namespace Go.Proofs.YtdadoignenffgaaGreatDoor
variable{w:World}{l:j4}
set_option maxHeartbeats 16000000
set_option maxRecDepth 100000
open Go.RowKit
theorem pU(l:List UInt8)(m:Nat)(hm:m<=12):
 Calls Tryz.prog 163 #[.string (bs l),.int .i64 (m:Int)] w fun e w'=>e=.returned (.tuple #[.int .i64 ((eD l m).getD 0),.bool (eD l m).isSome])/\Ext w w':=by
 obtain⟨b,hb⟩:∃b:Bool,b=decide (l[0]?=some 45):=⟨_,rfl⟩;obtain⟨dl,J⟩:=b9 (if l[0]?=some 45 then l.drop 1 else l)
 have FB:=ae (show eD l m=if(1<=dl.length/\dl.length<=m)/\dl.all bV=true/\Lib.itoa (if b=true then -(vM dl:Int) else(vM dl:Int))=l then some (if b=true then -(vM dl:Int) else(vM dl:Int)) else none by
  by_cases h:l[0]?=some 45
  ·rw[hb,J];unfold eD;simp[h]
  ·rw[hb,J];unfold eD;simp[h])
 have BD:=ae (show dl=if b=true then l.drop 1 else l by rw[J,hb];simp);have Cd:=ae hb;obtain⟨R,W⟩:=b9 (eD l m);rw[<-W]at FB;rw[<-W];clear W hb J;obtain⟨t,ht⟩:=b9 (bs l);obtain⟨E,Q⟩:=b9 (bs dl);have HT:=ae ht;have R7:=ae Q;have HS:=ae (show t.size=l.length by rw[ht,aQ]);have K:=ae (show E.size=dl.length by rw[Q,aQ]);have GY:=ae (show∀(k:Nat) (h:k<t.size),t[k]=l[k]?.getD 0 by subst ht;intro k h;exact lj h);have HAD:=ae (show∀(k:Nat) (h:k<E.size),E[k]=dl[k]?.getD 0 by subst Q;intro k h;exact lj h);rw[<-ht];clear ht Q;go_enter Tryz.func163,Tryz.ntmps163
 go_upto_region 1 with fail
 go_cut [6] (fun v wx=>v=.bool b/\b7 (w=wx))
 case first =>
  by_cases h0:0<t.size
  ·obtain⟨c0,wK⟩:=b9 (l[0]?.getD 0);have RN:∀h:0<t.size,t[0]=c0:=fun h=>by rw[GY.o 0 h,wK]
   have yN:=ae (show((c0.toNat:Int) == 45)=b by
    rw[Cd.o,wK,List.getElem?_eq_getElem (by rw[<-HS.o];exact h0)];simp only[Option.getD_some,Option.some.injEq];rw[Bool.eq_iff_iff];simp only[beq_iff_eq,decide_eq_true_eq];constructor
    ·intro e;exact UInt8.toNat_inj.1 (by rw[show(45:UInt8).toNat=45 from rfl];omega)
    ·intro e;rw[e];rfl)
   clear wK;go_wp2_with fail;go_meet;exact⟨by rw[yN.o],rfl⟩
  ·have yN:=ae (show b=false by
    rw[Cd.o,List.getElem?_eq_none (by rw[<-HS.o];omega)];rfl)
   go_wp2_with fail;go_meet;exact⟨by rw[yN.o],rfl⟩
 obtain⟨rfl,hw⟩:=hcut;obtain rfl:=hw.out;clear hw
 go_upto_if 19 with fail
 go_cut [7] (fun v wx=>v=.string E/\b7 (w=wx))
 case first =>
  cases b with
  | true =>
    have HE:=ae (show t.extract 1 t.size=E by rw[HT.o,T7,R7.o,BD.o];rfl);have h1:1<=t.size:=by
     have:=Cd.o;rw[eq_comm,decide_eq_true_eq]at this;have:=(List.getElem?_eq_some_iff.1 this).1;rw[HS.o];omega
    go_wp2_with fail;go_meet;exact⟨by rw[HE.o],rfl⟩
  | false =>
    have HE:=ae (show t=E by rw[HT.o,R7.o,BD.o];rfl);go_wp2_with fail;go_meet;exact⟨by rw[HE.o],rfl⟩
 obtain⟨rfl,hw⟩:=hcut;obtain rfl:=hw.out;clear hw;by_cases h1:E.size<1
 ·have HR:=ae (show R=none by rw[FB.o,if_neg (by rw[<-K.o];omega)]);obtain rfl:=HR.o;go_wp2_with fail
  go_ret2
  exact⟨rfl,Ext.refl _⟩
 by_cases h2:m<E.size
 ·have HR:=ae (show R=none by rw[FB.o,if_neg (by rw[<-K.o];omega)]);obtain rfl:=HR.o;go_wp2_with fail
  go_ret2
  exact⟨rfl,Ext.refl _⟩
 have HB:=ae (show E.size<=12 by omega);go_wp2_with fail
 go_loopg [8,9] E.size (fun gk nn ii wr=>∃(k:Nat),b7 (gk+k=E.size)/\nn=.int .i64 (vM (dl.take k):Int)/\ii=.int .i64 (k:Int)/\b7 ((dl.take k).all bV=true)/\b7 (w=wr))
 case atStart=>exact⟨0,ae rfl,rfl,rfl,ae rfl,ae rfl⟩
 case round =>
  obtain⟨g1,o6⟩:=b9 gk;subst o6;obtain⟨wr,wR⟩:=b9 wr;subst wR;obtain⟨k,O,rfl,rfl,HA,HW⟩:=hrel;obtain rfl:=HW.o;obtain⟨v,hv⟩:=b9 (vM (dl.take k));have HV:=ae hv;rw[<-hv];clear hv;have B0:=ae (show v<1000000000000 by rw[HV.o];exact ot (m:=E.size) HA.o (j1 O.o) HB.o);by_cases hk:k<E.size
  ·obtain⟨c,hc⟩:=b9 (dl[k]?.getD 0);have hkc:∀h:k<E.size,E[k]=c:=fun h=>by rw[HAD.o k h,hc]
   have e1:dl[k]?=some c:=by rw[hc,List.getElem?_eq_getElem (by rw[<-K.o];exact hk)];rfl
   have HE:=ae e1;clear hc e1;by_cases hd:bV c=true
   ·have xZ:=ae (es HE.o);unfold bV at hd;rw[decide_eq_true_eq]at hd;obtain⟨d,G⟩:∃d,c.toNat=d+48:=⟨c.toNat-48,by omega⟩;have Yo:d<=9:=by omega
    have xK:=B0.o;have FV:IntKind.u8.wrap (((d+48:Nat):Int)-48)=(d:Int):=by rw[IntKind.wrap_u8];omega
    have hci:(c.toNat:Int)=((d+48:Nat):Int):=by rw[G]
    have Q0:=ae (show vM (dl.take (k+1))=10*v+d by rw[xZ.o,fS,<-HV.o,G];omega);have HAN:=ae (show(dl.take (k+1)).all bV=true by rw[xZ.o,List.all_append,HA.o];simp[bV,G,Yo]);go_wp2_with fail
    go_roundg (g1-1)
    case measure=>have:=O.o;omega
    case rel=>exact⟨k+1,ae (j1 O.o),by rw[Q0.o];go_num,by go_num,HAN,ae rfl⟩
   ·have HR:=ae (show R=none by
     rw[FB.o,if_neg (fun g=>by
      have:=List.all_eq_true.1 g.2.1 c (List.mem_of_getElem? HE.o)
      exact hd this)])
    obtain rfl:=HR.o;unfold bV at hd;rw[decide_eq_true_eq]at hd
    rcases Nat.lt_or_ge c.toNat 48 with h6|h6
    ·go_wp2_with fail
     go_ret2
     exact⟨rfl,Ext.refl _⟩
    ·have h7:57<c.toNat:=by omega
     go_wp2_with fail
     go_ret2
     exact⟨rfl,Ext.refl _⟩
  ·have Dl:k=E.size:=by have:=O.o;omega
   have e:dl.length=k:=by rw[Dl,K.o]
   obtain⟨Z,U⟩:∃Z:Int,Z=if b=true then -(vM dl:Int) else(vM dl:Int):=⟨_,rfl⟩
   have LG:v=vM dl:=by rw[HV.o,<-e,List.take_length]
   have had:dl.all bV=true:=by have:=HA.o;rwa [<-e,List.take_length]at this
   have HR:=ae (show R=if Lib.itoa Z=l then some Z else none by
    rw[FB.o,<-U];by_cases hq:Lib.itoa Z=l
    ·rw[if_pos hq,if_pos ⟨⟨by omega,by omega⟩,had,hq⟩]
    ·rw[if_neg hq,if_neg fun g=>hq g.2.2])
   have HZ:=ae (show Z=if b=true then -(v:Int) else(v:Int)by rw[U,LG]);have xK:=B0.o;clear U LG had e Dl
   go_upto_if 55 with fail
   go_cut [8] (fun v wx=>v=.int .i64 Z/\b7 (w=wx))
   case first =>
    cases b with
    | true =>
      have Ue:=ae (show Z=-(v:Int)from HZ.o);go_wp2_with fail;go_meet;exact⟨by rw[Ue.o],rfl⟩
    | false =>
      have Ue:=ae (show Z=(v:Int)from HZ.o);go_wp2_with fail;go_meet;exact⟨by rw[Ue.o],rfl⟩
   obtain⟨rfl,hw⟩:=hcut;obtain rfl:=hw.out;clear hw;have HF:=ae (eI (w:=w) Z (by have:=HZ.o;split at this<;>omega) (by have:=HZ.o;split at this<;>omega));clear xK;by_cases hq:Lib.itoa Z=l
   ·have Ai:=ae (show R=some Z by rw[HR.o,if_pos hq]);obtain rfl:=Ai.o;have hne:((bs (Lib.itoa Z)).toList == t.toList)=true:=by rw[HT.o,bL,bL,hq];simp
    clear hq;obtain⟨tz,I⟩:=b9 (bs (Lib.itoa Z));rw[<-I]at hne HF;clear I;go_wp2_with fail;refine HF.o.mono ?_;rintro e w1 ⟨rfl,hx⟩;have HX:=ae hx;clear hx;go_wp2_with fail
    go_ret2
    exact⟨rfl,HX.o⟩
   ·have Ai:=ae (show R=none by rw[HR.o,if_neg hq]);obtain rfl:=Ai.o;have hne:((bs (Lib.itoa Z)).toList == t.toList)=false:=by rw[HT.o,bL,bL];simpa using hq
    clear hq;obtain⟨tz,I⟩:=b9 (bs (Lib.itoa Z));rw[<-I]at hne HF;clear I;go_wp2_with fail;refine HF.o.mono ?_;rintro e w1 ⟨rfl,hx⟩;have HX:=ae hx;clear hx;go_wp2_with fail
    go_ret2
    exact⟨rfl,HX.o⟩
theorem ta(l:List UInt8):Calls Tryz.prog 101 #[.string (bs l)] w fun e w'=>e=.returned (.tuple #[.int .i64 ((dw l).getD 0),.bool (dw l).isSome])/\Ext w w':=by
 have HD:=ae (pU (w:=w) l 12 e7);rw[ux]at HD;obtain⟨a,ha⟩:=b9 ((dw l).getD 0);obtain⟨b,hb⟩:=b9 ((dw l).isSome);rw[<-ha,<-hb]at HD;rw[<-ha,<-hb];clear ha hb;go_enter Tryz.func101,Tryz.ntmps101
 go_wp2_with fail;refine HD.o.mono ?_;rintro e w1 ⟨rfl,hx⟩;have HX:=ae hx;clear hx;go_wp2_with fail
 go_ret2
 exact⟨rfl,HX.o⟩
theorem oz(l:List UInt8):Calls Tryz.prog 98 #[.string (bs l)] w fun e w'=>e=.returned (.tuple #[.int .i64 (if 0<=aq l 6 then aq l 6 else 0),.bool (decide (0<=aq l 6))])/\Ext w w':=by
 have HD:=ae (pU (w:=w) l 6 e7);have hr:=kN l
 have HE:=ae (show(if 0<=aq l 6 then aq l 6 else 0)=(((eD l 6).bind (fun n=>if n<0 then none else some n)).getD 0)/\decide (0<=aq l 6)=((eD l 6).bind (fun n=>if n<0 then none else some n)).isSome by
  rw[hr];by_cases h:0<=aq l 6
  ·simp[h]
  ·simp[h])
 rw[HE.o.1,HE.o.2];clear hr HE;cases hR:eD l 6 with
 | none =>
   rw[hR]at HD;go_enter Tryz.func98,Tryz.ntmps98
   go_wp2_with fail;refine HD.o.mono ?_;rintro e w1 ⟨rfl,hx⟩;have HX:=ae hx;clear hx;go_wp2_with fail
   go_ret2
   exact⟨rfl,HX.o⟩
 | some n =>
   rw[hR]at HD;clear hR;by_cases h0:n<0
   ·rw[show(Option.bind (some n) fun n=>if n<0 then none else some n)=none from if_pos h0];go_enter Tryz.func98,Tryz.ntmps98
    go_wp2_with fail;refine HD.o.mono ?_;rintro e w1 ⟨rfl,hx⟩;have HX:=ae hx;clear hx;go_wp2_with fail
    go_ret2
    exact⟨rfl,HX.o⟩
   ·rw[show(Option.bind (some n) fun n=>if n<0 then none else some n)=some n from if_neg h0];go_enter Tryz.func98,Tryz.ntmps98
    go_wp2_with fail;refine HD.o.mono ?_;rintro e w1 ⟨rfl,hx⟩;have HX:=ae hx;clear hx;go_wp2_with fail
    go_ret2
    exact⟨rfl,HX.o⟩
open Go.Shelf
def pl:Go.Shelf.Ren:=⟨fun|101=>117|208=>183|206=>224|n=>n,fun|9=>9|4=>4|3=>3|n=>n,fun|n=>n⟩
theorem Jw:Go.Proofs.Lays.n101 Tryz.prog pl:={
 mixed:=by kernel_rfl
 f101:=Tryz.func117.trans (congrArg some e9)
 f206:=Tryz.func224.trans (congrArg some e9)
 f208:=Tryz.func183.trans (congrArg some e9)
 t3:=Tryz.underlying3
 a3:=Tryz.isAgg3
 z3:=Tryz.sizeOf3
 v3:=Tryz.zeroValue3
 t4:=Tryz.underlying4
 a4:=Tryz.isAgg4
 z4:=Tryz.sizeOf4
 v4:=Tryz.zeroValue4
 t9:=Tryz.underlying9
 a9:=Tryz.isAgg9
 z9:=Tryz.sizeOf9
 v9:=Tryz.zeroValue9 }
def qO:Go.Shelf.Ren:=⟨fun|103=>115|210=>182|206=>224|n=>n,fun|9=>9|4=>4|24=>128|3=>3|n=>n,fun|n=>n⟩
theorem ME:Go.Proofs.Lays.n103 Tryz.prog qO:={
 mixed:=by kernel_rfl
 f103:=Tryz.func115.trans (congrArg some e9)
 f206:=Tryz.func224.trans (congrArg some e9)
 f210:=Tryz.func182.trans (congrArg some e9)
 t3:=Tryz.underlying3
 a3:=Tryz.isAgg3
 z3:=Tryz.sizeOf3
 v3:=Tryz.zeroValue3
 t4:=Tryz.underlying4
 a4:=Tryz.isAgg4
 z4:=Tryz.sizeOf4
 v4:=Tryz.zeroValue4
 t9:=Tryz.underlying9
 a9:=Tryz.isAgg9
 z9:=Tryz.sizeOf9
 v9:=Tryz.zeroValue9
 t24:=Tryz.underlying128
 a24:=Tryz.isAgg128
 z24:=Tryz.sizeOf128
 v24:=Tryz.zeroValue128 }
def jv:Go.Shelf.Ren:=⟨fun|156=>132|165=>201|166=>202|169=>203|240=>239|241=>240|276=>258|277=>259|n=>n,fun|31=>53|9=>9|3=>3|4=>4|0=>0|20=>20|72=>191|76=>195|70=>189|37=>26|75=>194|127=>217|164=>224|5=>5|80=>197|n=>n,fun|n=>n⟩
theorem pk:Go.Proofs.Lays.n156 Tryz.prog jv:={
 mixed:=by kernel_rfl
 f156:=Tryz.func132.trans (congrArg some e9)
 f165:=Tryz.func201.trans (congrArg some e9)
 f166:=Tryz.func202.trans (congrArg some e9)
 f169:=Tryz.func203.trans (congrArg some e9)
 f240:=Tryz.func239.trans (congrArg some e9)
 f241:=Tryz.func240.trans (congrArg some e9)
 f276:=Tryz.func258.trans (congrArg some e9)
 f277:=Tryz.func259.trans (congrArg some e9)
 t0:=Tryz.underlying0
 a0:=Tryz.isAgg0
 z0:=Tryz.sizeOf0
 v0:=Tryz.zeroValue0
 t3:=Tryz.underlying3
 a3:=Tryz.isAgg3
 z3:=Tryz.sizeOf3
 v3:=Tryz.zeroValue3
 t4:=Tryz.underlying4
 a4:=Tryz.isAgg4
 z4:=Tryz.sizeOf4
 v4:=Tryz.zeroValue4
 t9:=Tryz.underlying9
 a9:=Tryz.isAgg9
 z9:=Tryz.sizeOf9
 v9:=Tryz.zeroValue9
 t20:=Tryz.underlying20
 a20:=Tryz.isAgg20
 z20:=Tryz.sizeOf20
 v20:=Tryz.zeroValue20
 t31:=Tryz.underlying53
 a31:=Tryz.isAgg53
 z31:=Tryz.sizeOf53
 v31:=Tryz.zeroValue53
 t37:=Tryz.underlying26
 a37:=Tryz.isAgg26
 z37:=Tryz.sizeOf26
 v37:=Tryz.zeroValue26
 t70:=Tryz.underlying189
 a70:=Tryz.isAgg189
 z70:=Tryz.sizeOf189
 v70:=Tryz.zeroValue189
 t72:=Tryz.underlying191
 a72:=Tryz.isAgg191
 z72:=Tryz.sizeOf191
 v72:=Tryz.zeroValue191
 t75:=Tryz.underlying194
 a75:=Tryz.isAgg194
 z75:=Tryz.sizeOf194
 v75:=Tryz.zeroValue194
 t76:=Tryz.underlying195
 a76:=Tryz.isAgg195
 z76:=Tryz.sizeOf195
 v76:=Tryz.zeroValue195
 t127:=Tryz.underlying217
 a127:=Tryz.isAgg217
 z127:=Tryz.sizeOf217
 v127:=Tryz.zeroValue217
 t164:=Tryz.underlying224
 a164:=Tryz.isAgg224
 z164:=Tryz.sizeOf224
 v164:=Tryz.zeroValue224 }
theorem ng:Builder.Extra Tryz.prog jv where
 sizeBuilder:=by kernel_rfl
 liesBuilder:=by kernel_rfl
 t5:=Tryz.underlying5
 a5:=Tryz.isAgg5
 z5:=Tryz.sizeOf5
 v5:=Tryz.zeroValue5
 infoByte:=by kernel_rfl
 cellsByte:=by kernel_rfl
 sizeByte:=by kernel_rfl
 neB5:=by decide
def vu(a:Int):Prop:=-1000000000000000000<=a/\a<=1000000000000000000
theorem rM(p:Int){q:Int}(h:q≠0):(p.tmod q).natAbs<q.natAbs:=by
 rw[Int.natAbs_tmod];exact Nat.mod_lt _ e7
theorem rL(p:Int){q:Int}(h:q≠0)(hq:vu q):vu (p.tmod q):=by
 have:=rM p h;unfold vu at *
 revert this
 generalize p.tmod q=r;intro this;omega
theorem iN(a b:Int)(w:World)(ha:vu a)(hb:vu b):
 Calls Tryz.prog 136 #[.int .i64 a,.int .i64 b] w fun e w'=>e=.returned (.int .i64 (gI a b))/\yU w w':=by
 go_enter Tryz.func136,Tryz.ntmps136
 go_wp2
 go_loopw [0,1] (fun x y wr=>∃p q:Int,x=.int .i64 p/\y=.int .i64 q/\b7 (gI p q=gI a b)/\b7 (vu p)/\b7 (vu q)/\yU w wr) (fun _ y _=>(intOf y).natAbs)
 case atStart=>exact⟨a,b,rfl,rfl,ae rfl,ae ha,ae hb,yU.refl _⟩
 case round =>
  obtain⟨p,q,rfl,rfl,HG,HP,HQ,hx⟩:=hrel;obtain⟨Dk,PU⟩:=HP.o;obtain⟨Ao,An⟩:=HQ.o;by_cases hq:q=0
  ·subst hq
   go_wp2
   all_goals
    go_ret;refine⟨aD ?_,hx⟩;have:=HG.o;rw[mv]at this;omega
  ·have hqb:(q != 0)=true:=by simpa using hq
   have Xg:(q == 0)=false:=by simpa using hq
   have ht:=rM p hq;have HT:=ae ht;have E:=ae hq
   go_wp2
   go_quiet (fail)
   go_wp2
   go_roundw
   case rel=>exact⟨q,p.tmod q,rfl,by go_num,ae (by rw[ro];exact HG.o),HQ,ae (rL p E.o HQ.o),hx.trans ⟨_,rfl⟩⟩
   case measure=>have h:=HT.o;rw[Int.natAbs_tmod]at h;simp[intOf,Int.natAbs_tmod];omega
theorem mM(a b:Int)(w:World)(ha:vu a)(hb:vu b):
 Calls Tryz.prog 102 #[.int .i64 a,.int .i64 b] w fun e w'=>e=.returned (.int .i64 (gI a b))/\yU w w':=by
 have ha':=ha;have G:=hb;obtain⟨Iu,It⟩:=ha';obtain⟨xL,wU⟩:=G;by_cases h1:a<0
 all_goals
  by_cases h2:b<0
  all_goals
   go_enter Tryz.func102,Tryz.ntmps102
   go_wp2
   go_loop [0,1,5] (fun x y z=>∃p q:Int,x=.int .i64 p/\y=.int .i64 q/\0<=p/\0<=q/\b7 (gI p q=gI a b)/\b7 (vu p)/\b7 (vu q)) (fun _ y _=>(intOf y).natAbs)
   case atStart =>
    first
     | exact⟨_,_,rfl,rfl,by omega,by omega,ae rfl,ae ha,ae hb⟩
     | exact⟨-a,_,by go_num,rfl,by omega,by omega,ae (gD _ _),ae ⟨by omega,by omega⟩,ae hb⟩
     | exact⟨_,-b,rfl,by go_num,by omega,by omega,ae (jK _ _),ae ha,ae ⟨by omega,by omega⟩⟩
     | exact⟨-a,-b,by go_num,by go_num,by omega,by omega,ae ((gD _ _).trans (jK _ _)),ae ⟨by omega,by omega⟩,ae ⟨by omega,by omega⟩⟩
   case round =>
    obtain⟨p,q,rfl,rfl,I,Xk,HG,HP,HQ⟩:=hrel;by_cases hq:q=0
    ·subst hq
     go_wp2
     go_ret;refine⟨aD ?_,yU.refl _⟩;have:=HG.o;rw[mv]at this;omega
    ·have Xg:(q == 0)=false:=by simpa using hq
     have AX:0<q:=by omega
     have HT:=ae (Int.emod_lt_of_pos p AX);have GP:=ae (Int.emod_nonneg p hq);have E:=ae hq;have HM:=ae (Int.tmod_eq_emod_of_nonneg (b:=q) I)
     go_wp2
     go_round
     case rel=>exact⟨q,p % q,rfl,by go_num,by omega,GP.o,ae (by rw[<-HM.o,ro];exact HG.o),HQ,ae (by rw[<-HM.o];exact rL p E.o HQ.o)⟩
     case measure=>have:=HT.o;have:=GP.o;simp[intOf];omega
abbrev wk(x y:Int):Value:=.agg #[.int .i64 x,.int .i64 y]
abbrev Bq(r:(Int×Int)×Bool):Value:=.tuple #[.agg #[.int .i64 r.1.1,.int .i64 r.1.2],.bool r.2]
theorem fw{a:Int}(h:vu a):vu (-a):=by unfold vu at *;omega
theorem lT(n:Int){g:Int}(hg:1<=g)(hn:vu n):vu (n.tdiv g):=by
 have:=kZ n g hg;unfold vu at *
 revert this
 generalize n.tdiv g=r;intro this;omega
theorem bj{a:Int}(h:vu a):IntKind.i64.wrap a=a/\wrap64 a=a:=by
 unfold vu at h;have:wrap64 a=a:=by unfold wrap64;omega
 exact⟨by rw[IntKind.wrap_i64];omega,this⟩
theorem ap(x y:Int)(w:World):
 Calls Tryz.prog 131 #[wk x y] w fun e w'=>e=.returned (.bool (o9 (x,y)))/\Ext w w':=by
 have HX:=ae (Ext.alloc w (.cells #[.int .i64 x,.int .i64 y] 62));cases h1:r' y 1 1000000000
 ·have H1:=ae h1;clear h1;go_enter Tryz.func131,Tryz.ntmps131
  go_wp2_with fail;refine(aJ _ _ _ _).mono ?_;rw[H1.o];rintro e w1 ⟨rfl,rfl⟩
  go_wp2
  go_ret;exact⟨ai (by simp[o9,H1.o]),HX.o⟩
 ·have H1:=ae h1;have hy:vu y:=by simp only[r',Bool.and_eq_true,decide_eq_true_eq]at h1;exact⟨by omega,by omega⟩
  clear h1;cases h2:r' x (-1000000000) 1000000000
  ·have H2:=ae h2;clear h2;go_enter Tryz.func131,Tryz.ntmps131
   go_wp2_with fail;refine(aJ _ _ _ _).mono ?_;rw[H1.o];rintro e w1 ⟨rfl,rfl⟩;go_wp2_with fail;refine(aJ _ _ _ _).mono ?_;rw[H2.o];rintro e w1 ⟨rfl,rfl⟩
   go_wp2
   go_ret;exact⟨ai (by simp[o9,H2.o]),HX.o⟩
  ·have H2:=ae h2;have hx:vu x:=by simp only[r',Bool.and_eq_true,decide_eq_true_eq]at h2;exact⟨by omega,by omega⟩
   clear h2;have HC:=ae (iN x y (w.alloc (.cells #[.int .i64 x,.int .i64 y] 62)) hx hy);go_enter Tryz.func131,Tryz.ntmps131
   go_wp2_with fail;refine(aJ _ _ _ _).mono ?_;rw[H1.o];rintro e w1 ⟨rfl,rfl⟩;go_wp2_with fail;refine(aJ _ _ _ _).mono ?_;rw[H2.o];rintro e w1 ⟨rfl,rfl⟩;go_wp2_with fail;refine HC.o.mono ?_;rintro e w1 ⟨rfl,hd⟩
   go_wp2
   go_ret;exact⟨ai (by simp only[o9,H1.o,H2.o];by_cases h:gI x y=1<;>simp[h]),HX.o.trans hd.ext⟩
theorem aw(x y:Int)(w:World):
 Calls Tryz.prog 103 #[wk x y] w fun e w'=>e=.returned (.bool (o9 (x,y)))/\Ext w w':=by
 have HX:=ae (Ext.alloc w (.cells #[.int .i64 x,.int .i64 y] 62));cases h1:r' y 1 1000000000
 ·have H1:=ae h1;clear h1;go_enter Tryz.func103,Tryz.ntmps103
  go_wp2_with fail;refine(bm _ _ _ _).mono ?_;rw[H1.o];rintro e w1 ⟨rfl,rfl⟩
  go_wp2
  go_ret;exact⟨ai (by simp[o9,H1.o]),HX.o⟩
 ·have H1:=ae h1;have hy:vu y:=by simp only[r',Bool.and_eq_true,decide_eq_true_eq]at h1;exact⟨by omega,by omega⟩
  clear h1;cases h2:r' x (-1000000000) 1000000000
  ·have H2:=ae h2;clear h2;go_enter Tryz.func103,Tryz.ntmps103
   go_wp2_with fail;refine(bm _ _ _ _).mono ?_;rw[H1.o];rintro e w1 ⟨rfl,rfl⟩;go_wp2_with fail;refine(bm _ _ _ _).mono ?_;rw[H2.o];rintro e w1 ⟨rfl,rfl⟩
   go_wp2
   go_ret;exact⟨ai (by simp[o9,H2.o]),HX.o⟩
  ·have H2:=ae h2;have hx:vu x:=by simp only[r',Bool.and_eq_true,decide_eq_true_eq]at h2;exact⟨by omega,by omega⟩
   clear h2;have HC:=ae (mM x y (w.alloc (.cells #[.int .i64 x,.int .i64 y] 62)) hx hy);go_enter Tryz.func103,Tryz.ntmps103
   go_wp2_with fail;refine(bm _ _ _ _).mono ?_;rw[H1.o];rintro e w1 ⟨rfl,rfl⟩;go_wp2_with fail;refine(bm _ _ _ _).mono ?_;rw[H2.o];rintro e w1 ⟨rfl,rfl⟩;go_wp2_with fail;refine HC.o.mono ?_;rintro e w1 ⟨rfl,hd⟩
   go_wp2
   go_ret;exact⟨ai (by simp only[o9,H1.o,H2.o];by_cases h:gI x y=1<;>simp[h]),HX.o.trans hd.ext⟩
theorem ix(n d:Int)(w:World):
 Calls Tryz.prog 123 #[.int .i64 n,.int .i64 d] w fun e w'=>e=.returned (Bq (az n d))/\Ext w w':=by
 have HX:=ae (Ext.alloc w (.cells #[.int .i64 0,.int .i64 0] 62));by_cases h0:d=0
 ·have HR:=ae (show az n d=((0,0),false)by unfold az;rw[if_pos (.inl h0)]);subst h0;go_enter Tryz.func123,Tryz.ntmps123
  go_wp2
  rw[HR.o];refine bodyPost_ret (v:=.tuple #[.agg #[.int .i64 0,.int .i64 0],.bool false]) (by simp[results,Tryz.results123,go_sem]) rfl ⟨rfl,HX.o⟩
 have h0b:(d == 0)=false:=by simpa using h0
 cases h1:r' n (-1000000000000000000) 1000000000000000000
 ·have H1:=ae h1;clear h1;have HR:=ae (show az n d=((0,0),false)by unfold az;rw[if_pos (.inr (.inl H1.o))]);go_enter Tryz.func123,Tryz.ntmps123
  go_wp2_with fail;refine(aJ _ _ _ _).mono ?_;rw[H1.o];rintro e w1 ⟨rfl,rfl⟩
  go_wp2
  rw[HR.o];refine bodyPost_ret (v:=.tuple #[.agg #[.int .i64 0,.int .i64 0],.bool false]) (by simp[results,Tryz.results123,go_sem]) rfl ⟨rfl,HX.o⟩
 have H1:=ae h1;have hn:vu n:=by simp only[r',Bool.and_eq_true,decide_eq_true_eq]at h1;exact⟨by omega,by omega⟩
 clear h1;cases h2:r' d (-1000000000000000000) 1000000000000000000
 ·have H2:=ae h2;clear h2;have HR:=ae (show az n d=((0,0),false)by unfold az;rw[if_pos (.inr (.inr H2.o))]);go_enter Tryz.func123,Tryz.ntmps123
  go_wp2_with fail;refine(aJ _ _ _ _).mono ?_;rw[H1.o];rintro e w1 ⟨rfl,rfl⟩;go_wp2_with fail;refine(aJ _ _ _ _).mono ?_;rw[H2.o];rintro e w1 ⟨rfl,rfl⟩
  go_wp2
  rw[HR.o];refine bodyPost_ret (v:=.tuple #[.agg #[.int .i64 0,.int .i64 0],.bool false]) (by simp[results,Tryz.results123,go_sem]) rfl ⟨rfl,HX.o⟩
 have H2:=ae h2;have hd:vu d:=by simp only[r',Bool.and_eq_true,decide_eq_true_eq]at h2;exact⟨by omega,by omega⟩
 clear h2;have Cx:=jq n h0;have J:=GJ n h0;have hq:=lT n Cx hn;have I:=lT d Cx hd;by_cases h3:d<0
 ·have HC:=ae (iN n d (w.alloc (.cells #[.int .i64 0,.int .i64 0] 62)) hn hd);obtain⟨g,hg⟩:=b9 (gI n d);rw[<-hg]at Cx J HC hq I;have HG:=ae hg;have O:g<=1000000000000000000:=by obtain⟨_,_⟩:=hd;omega
  have DL:¬g=0:=by omega
  have hgn:(-g == 0)=false:=by simp;omega
  obtain⟨zv,Q⟩:=hn;obtain⟨D1,K⟩:=hd;obtain⟨q1,Ao⟩:=b9 (-(n.tdiv g));obtain⟨E,An⟩:=b9 (-(d.tdiv g));have HR:=ae (show az n d=xI (q1,E)by unfold az;rw[if_neg (by simp[h0,H1.o,H2.o]),if_pos h3,<-HG.o,Int.tdiv_neg,Int.tdiv_neg,Ao,An]);obtain⟨e1,e2⟩:=bj (fw hq);obtain⟨e3,e4⟩:=bj (fw I);rw[<-Ao]at e1 e2;rw[<-An]at e3 e4;have m1:(-n).tdiv g=q1:=by rw[Int.neg_tdiv,Ao]
  have m2:(-d).tdiv g=E:=by rw[Int.neg_tdiv,An]
  have m3:n.tdiv (-g)=q1:=by rw[Int.tdiv_neg,Ao]
  have m4:d.tdiv (-g)=E:=by rw[Int.tdiv_neg,An]
  have MY:=Ao.symm;have J2:=An.symm;clear hq I hg J Ao An;cases hv:o9 (q1,E)
  all_goals
   go_enter Tryz.func123,Tryz.ntmps123
   go_wp2_with fail;refine(aJ _ _ _ _).mono ?_;rw[H1.o];rintro e w1 ⟨rfl,rfl⟩;go_wp2_with fail;refine(aJ _ _ _ _).mono ?_;rw[H2.o];rintro e w1 ⟨rfl,rfl⟩;go_wp2_with fail;refine HC.o.mono ?_;rintro e w1 ⟨rfl,hd⟩;have G:w1.heap[w.heap.size]?=some (.cells #[.int .i64 0,.int .i64 0] 62 (0,0)):=(hd.ext.block _ e8).trans (heap_alloc_new _ _);have HB:=ae G;have LT:=ae (lt_of_block G);have X1:=ae (HX.o.trans hd.ext);clear hd G
   go_wp2
   go_region_law (fail)
   have X2:=ae ((X1.o.trans (Ext.alloc w1 (.cells #[.int .i64 q1,.int .i64 E] 62))).trans (Ext.drew _));have HV:=ae (ap q1 E ((w1.alloc (.cells #[.int .i64 q1,.int .i64 E] 62)).drew));go_wp2_with fail;refine HV.o.mono ?_;rw[hv];rintro e w2 ⟨rfl,hx⟩;have lt:=LT.o;have G:w2.heap[w.heap.size]?=some (.cells #[.int .i64 0,.int .i64 0] 62 (0,0)):=(hx.block _ (by simp;omega)).trans ((bU w1 (.cells #[.int .i64 q1,.int .i64 E] 62) _ lt).trans HB.o);have hC:w2.heap[w1.heap.size]?=some (.cells #[.int .i64 q1,.int .i64 E] 62 (0,0)):=(hx.block _ e8).trans (heap_alloc_new w1 (.cells #[.int .i64 q1,.int .i64 E] 62));have b0:w2.cell? ⟨w.heap.size,0,none⟩=some (.int .i64 0):=by rw[cell_of_row _ _ _ _ _ _ G];rfl
   have b1:w2.cell? ⟨w.heap.size,1,none⟩=some (.int .i64 0):=by rw[cell_of_row _ _ _ _ _ _ G];rfl
   have c0:w2.cell? ⟨w1.heap.size,0,none⟩=some (.int .i64 q1):=by rw[cell_of_row _ _ _ _ _ _ hC];rfl
   have c1:w2.cell? ⟨w1.heap.size,1,none⟩=some (.int .i64 E):=by rw[cell_of_row _ _ _ _ _ _ hC];rfl
   have fb:∀o,w2.frozen? ⟨w.heap.size,o,none⟩=false:=fun o=>frozen_of_row _ _ _ _ _ G
   have X3:=ae (X2.o.trans hx);clear hx G hC lt
   go_wp2
   rw[HR.o]
  ·refine bodyPost_ret (v:=.tuple #[.agg #[.int .i64 0,.int .i64 0],.bool false]) (by simp[results,Tryz.results123,go_sem,b0,b1]) rfl ⟨by simp[xI,hv],?_⟩;exact(X3.o.setCell e8 _).setCell e8 _
  ·refine bodyPost_ret (v:=.tuple #[.agg #[.int .i64 q1,.int .i64 E],.bool true]) (by simp[results,Tryz.results123,go_sem,b0,b1]) rfl ⟨by simp[xI,hv],?_⟩;exact(X3.o.setCell e8 _).setCell e8 _
 ·have HC:=ae (iN n d (w.alloc (.cells #[.int .i64 0,.int .i64 0] 62)) hn hd);obtain⟨g,hg⟩:=b9 (gI n d);rw[<-hg]at Cx J HC hq I;have HG:=ae hg;have O:g<=1000000000000000000:=by obtain⟨_,_⟩:=hd;omega
  have DL:¬g=0:=by omega
  obtain⟨zv,Q⟩:=hn;obtain⟨D1,K⟩:=hd;obtain⟨q1,Ao⟩:=b9 (n.tdiv g);obtain⟨E,An⟩:=b9 (d.tdiv g);have HR:=ae (show az n d=xI (q1,E)by unfold az;rw[if_neg (by simp[h0,H1.o,H2.o]),if_neg h3,<-HG.o,Ao,An]);have hm:d.tdiv g=d/g:=Int.tdiv_eq_ediv_of_nonneg e7;obtain⟨e1,e2⟩:=bj hq;obtain⟨e3,e4⟩:=bj I;rw[<-Ao]at e1 e2;rw[<-An]at e3 e4;have MY:=Ao.symm;have J2:=An.symm;have Xi:d/g=E:=by rw[<-hm,An]
  clear hq I hg J Ao An hm;cases hv:o9 (q1,E)
  all_goals
   go_enter Tryz.func123,Tryz.ntmps123
   go_wp2_with fail;refine(aJ _ _ _ _).mono ?_;rw[H1.o];rintro e w1 ⟨rfl,rfl⟩;go_wp2_with fail;refine(aJ _ _ _ _).mono ?_;rw[H2.o];rintro e w1 ⟨rfl,rfl⟩;go_wp2_with fail;refine HC.o.mono ?_;rintro e w1 ⟨rfl,hd⟩;have G:w1.heap[w.heap.size]?=some (.cells #[.int .i64 0,.int .i64 0] 62 (0,0)):=(hd.ext.block _ e8).trans (heap_alloc_new _ _);have HB:=ae G;have LT:=ae (lt_of_block G);have X1:=ae (HX.o.trans hd.ext);clear hd G
   go_wp2
   go_region_law (fail)
   have X2:=ae ((X1.o.trans (Ext.alloc w1 (.cells #[.int .i64 q1,.int .i64 E] 62))).trans (Ext.drew _));have HV:=ae (ap q1 E ((w1.alloc (.cells #[.int .i64 q1,.int .i64 E] 62)).drew));go_wp2_with fail;refine HV.o.mono ?_;rw[hv];rintro e w2 ⟨rfl,hx⟩;have lt:=LT.o;have G:w2.heap[w.heap.size]?=some (.cells #[.int .i64 0,.int .i64 0] 62 (0,0)):=(hx.block _ (by simp;omega)).trans ((bU w1 (.cells #[.int .i64 q1,.int .i64 E] 62) _ lt).trans HB.o);have hC:w2.heap[w1.heap.size]?=some (.cells #[.int .i64 q1,.int .i64 E] 62 (0,0)):=(hx.block _ e8).trans (heap_alloc_new w1 (.cells #[.int .i64 q1,.int .i64 E] 62));have b0:w2.cell? ⟨w.heap.size,0,none⟩=some (.int .i64 0):=by rw[cell_of_row _ _ _ _ _ _ G];rfl
   have b1:w2.cell? ⟨w.heap.size,1,none⟩=some (.int .i64 0):=by rw[cell_of_row _ _ _ _ _ _ G];rfl
   have c0:w2.cell? ⟨w1.heap.size,0,none⟩=some (.int .i64 q1):=by rw[cell_of_row _ _ _ _ _ _ hC];rfl
   have c1:w2.cell? ⟨w1.heap.size,1,none⟩=some (.int .i64 E):=by rw[cell_of_row _ _ _ _ _ _ hC];rfl
   have fb:∀o,w2.frozen? ⟨w.heap.size,o,none⟩=false:=fun o=>frozen_of_row _ _ _ _ _ G
   have X3:=ae (X2.o.trans hx);clear hx G hC lt
   go_wp2
   rw[HR.o]
  ·refine bodyPost_ret (v:=.tuple #[.agg #[.int .i64 0,.int .i64 0],.bool false]) (by simp[results,Tryz.results123,go_sem,b0,b1]) rfl ⟨by simp[xI,hv],?_⟩;exact(X3.o.setCell e8 _).setCell e8 _
  ·refine bodyPost_ret (v:=.tuple #[.agg #[.int .i64 q1,.int .i64 E],.bool true]) (by simp[results,Tryz.results123,go_sem,b0,b1]) rfl ⟨by simp[xI,hv],?_⟩;exact(X3.o.setCell e8 _).setCell e8 _
theorem jO(n d:Int)(w:World):
 Calls Tryz.prog 44 #[.int .i64 n,.int .i64 d] w fun e w'=>e=.returned (Bq (az n d))/\Ext w w':=by
 have HX:=ae (Ext.alloc w (.cells #[.int .i64 0,.int .i64 0] 62));by_cases h0:d=0
 ·have HR:=ae (show az n d=((0,0),false)by unfold az;rw[if_pos (.inl h0)]);subst h0;go_enter Tryz.func44,Tryz.ntmps44
  go_wp2
  rw[HR.o];refine bodyPost_ret (v:=.tuple #[.agg #[.int .i64 0,.int .i64 0],.bool false]) (by simp[results,Tryz.results44,go_sem]) rfl ⟨rfl,HX.o⟩
 have h0b:(d == 0)=false:=by simpa using h0
 cases h1:r' n (-1000000000000000000) 1000000000000000000
 ·have H1:=ae h1;clear h1;have HR:=ae (show az n d=((0,0),false)by unfold az;rw[if_pos (.inr (.inl H1.o))]);go_enter Tryz.func44,Tryz.ntmps44
  go_wp2_with fail;refine(bm _ _ _ _).mono ?_;rw[H1.o];rintro e w1 ⟨rfl,rfl⟩
  go_wp2
  rw[HR.o];refine bodyPost_ret (v:=.tuple #[.agg #[.int .i64 0,.int .i64 0],.bool false]) (by simp[results,Tryz.results44,go_sem]) rfl ⟨rfl,HX.o⟩
 have H1:=ae h1;have hn:vu n:=by simp only[r',Bool.and_eq_true,decide_eq_true_eq]at h1;exact⟨by omega,by omega⟩
 clear h1;cases h2:r' d (-1000000000000000000) 1000000000000000000
 ·have H2:=ae h2;clear h2;have HR:=ae (show az n d=((0,0),false)by unfold az;rw[if_pos (.inr (.inr H2.o))]);go_enter Tryz.func44,Tryz.ntmps44
  go_wp2_with fail;refine(bm _ _ _ _).mono ?_;rw[H1.o];rintro e w1 ⟨rfl,rfl⟩;go_wp2_with fail;refine(bm _ _ _ _).mono ?_;rw[H2.o];rintro e w1 ⟨rfl,rfl⟩
  go_wp2
  rw[HR.o];refine bodyPost_ret (v:=.tuple #[.agg #[.int .i64 0,.int .i64 0],.bool false]) (by simp[results,Tryz.results44,go_sem]) rfl ⟨rfl,HX.o⟩
 have H2:=ae h2;have hd:vu d:=by simp only[r',Bool.and_eq_true,decide_eq_true_eq]at h2;exact⟨by omega,by omega⟩
 clear h2;have Cx:=jq n h0;have J:=GJ n h0;have hq:=lT n Cx hn;have I:=lT d Cx hd;by_cases h3:d<0
 ·have HC:=ae (mM (-n) (-d) (w.alloc (.cells #[.int .i64 0,.int .i64 0] 62)) (fw hn) (fw hd));rw[gD,jK]at HC;obtain⟨g,hg⟩:=b9 (gI n d);rw[<-hg]at Cx J HC hq I;have HG:=ae hg;have O:g<=1000000000000000000:=by obtain⟨_,_⟩:=hd;omega
  have DL:¬g=0:=by omega
  have hgn:(-g == 0)=false:=by simp;omega
  obtain⟨zv,Q⟩:=hn;obtain⟨D1,K⟩:=hd;obtain⟨q1,Ao⟩:=b9 (-(n.tdiv g));obtain⟨E,An⟩:=b9 (-(d.tdiv g));have HR:=ae (show az n d=xI (q1,E)by unfold az;rw[if_neg (by simp[h0,H1.o,H2.o]),if_pos h3,<-HG.o,Int.tdiv_neg,Int.tdiv_neg,Ao,An]);obtain⟨e1,e2⟩:=bj (fw hq);obtain⟨e3,e4⟩:=bj (fw I);rw[<-Ao]at e1 e2;rw[<-An]at e3 e4;have m1:(-n).tdiv g=q1:=by rw[Int.neg_tdiv,Ao]
  have m2:(-d).tdiv g=E:=by rw[Int.neg_tdiv,An]
  have m3:n.tdiv (-g)=q1:=by rw[Int.tdiv_neg,Ao]
  have m4:d.tdiv (-g)=E:=by rw[Int.tdiv_neg,An]
  have MY:=Ao.symm;have J2:=An.symm;clear hq I hg J Ao An;cases hv:o9 (q1,E)
  all_goals
   go_enter Tryz.func44,Tryz.ntmps44
   go_wp2_with fail;refine(bm _ _ _ _).mono ?_;rw[H1.o];rintro e w1 ⟨rfl,rfl⟩;go_wp2_with fail;refine(bm _ _ _ _).mono ?_;rw[H2.o];rintro e w1 ⟨rfl,rfl⟩;go_wp2_with fail;refine HC.o.mono ?_;rintro e w1 ⟨rfl,hd⟩;have G:w1.heap[w.heap.size]?=some (.cells #[.int .i64 0,.int .i64 0] 62 (0,0)):=(hd.ext.block _ e8).trans (heap_alloc_new _ _);have HB:=ae G;have LT:=ae (lt_of_block G);have X1:=ae (HX.o.trans hd.ext);clear hd G
   go_wp2
   go_region_law (fail)
   have X2:=ae ((X1.o.trans (Ext.alloc w1 (.cells #[.int .i64 q1,.int .i64 E] 62))).trans (Ext.drew _));have HV:=ae (aw q1 E ((w1.alloc (.cells #[.int .i64 q1,.int .i64 E] 62)).drew));go_wp2_with fail;refine HV.o.mono ?_;rw[hv];rintro e w2 ⟨rfl,hx⟩;have lt:=LT.o;have G:w2.heap[w.heap.size]?=some (.cells #[.int .i64 0,.int .i64 0] 62 (0,0)):=(hx.block _ (by simp;omega)).trans ((bU w1 (.cells #[.int .i64 q1,.int .i64 E] 62) _ lt).trans HB.o);have hC:w2.heap[w1.heap.size]?=some (.cells #[.int .i64 q1,.int .i64 E] 62 (0,0)):=(hx.block _ e8).trans (heap_alloc_new w1 (.cells #[.int .i64 q1,.int .i64 E] 62));have b0:w2.cell? ⟨w.heap.size,0,none⟩=some (.int .i64 0):=by rw[cell_of_row _ _ _ _ _ _ G];rfl
   have b1:w2.cell? ⟨w.heap.size,1,none⟩=some (.int .i64 0):=by rw[cell_of_row _ _ _ _ _ _ G];rfl
   have c0:w2.cell? ⟨w1.heap.size,0,none⟩=some (.int .i64 q1):=by rw[cell_of_row _ _ _ _ _ _ hC];rfl
   have c1:w2.cell? ⟨w1.heap.size,1,none⟩=some (.int .i64 E):=by rw[cell_of_row _ _ _ _ _ _ hC];rfl
   have fb:∀o,w2.frozen? ⟨w.heap.size,o,none⟩=false:=fun o=>frozen_of_row _ _ _ _ _ G
   have X3:=ae (X2.o.trans hx);clear hx G hC lt
   go_wp2
   rw[HR.o]
  ·refine bodyPost_ret (v:=.tuple #[.agg #[.int .i64 0,.int .i64 0],.bool false]) (by simp[results,Tryz.results44,go_sem,b0,b1]) rfl ⟨by simp[xI,hv],?_⟩;exact(X3.o.setCell e8 _).setCell e8 _
  ·refine bodyPost_ret (v:=.tuple #[.agg #[.int .i64 q1,.int .i64 E],.bool true]) (by simp[results,Tryz.results44,go_sem,b0,b1]) rfl ⟨by simp[xI,hv],?_⟩;exact(X3.o.setCell e8 _).setCell e8 _
 ·have HC:=ae (mM n d (w.alloc (.cells #[.int .i64 0,.int .i64 0] 62)) hn hd);obtain⟨g,hg⟩:=b9 (gI n d);rw[<-hg]at Cx J HC hq I;have HG:=ae hg;have O:g<=1000000000000000000:=by obtain⟨_,_⟩:=hd;omega
  have DL:¬g=0:=by omega
  obtain⟨zv,Q⟩:=hn;obtain⟨D1,K⟩:=hd;obtain⟨q1,Ao⟩:=b9 (n.tdiv g);obtain⟨E,An⟩:=b9 (d.tdiv g);have HR:=ae (show az n d=xI (q1,E)by unfold az;rw[if_neg (by simp[h0,H1.o,H2.o]),if_neg h3,<-HG.o,Ao,An]);have hm:d.tdiv g=d/g:=Int.tdiv_eq_ediv_of_nonneg e7;obtain⟨e1,e2⟩:=bj hq;obtain⟨e3,e4⟩:=bj I;rw[<-Ao]at e1 e2;rw[<-An]at e3 e4;have MY:=Ao.symm;have J2:=An.symm;have Xi:d/g=E:=by rw[<-hm,An]
  clear hq I hg J Ao An hm;cases hv:o9 (q1,E)
  all_goals
   go_enter Tryz.func44,Tryz.ntmps44
   go_wp2_with fail;refine(bm _ _ _ _).mono ?_;rw[H1.o];rintro e w1 ⟨rfl,rfl⟩;go_wp2_with fail;refine(bm _ _ _ _).mono ?_;rw[H2.o];rintro e w1 ⟨rfl,rfl⟩;go_wp2_with fail;refine HC.o.mono ?_;rintro e w1 ⟨rfl,hd⟩;have G:w1.heap[w.heap.size]?=some (.cells #[.int .i64 0,.int .i64 0] 62 (0,0)):=(hd.ext.block _ e8).trans (heap_alloc_new _ _);have HB:=ae G;have LT:=ae (lt_of_block G);have X1:=ae (HX.o.trans hd.ext);clear hd G
   go_wp2
   go_region_law (fail)
   have X2:=ae ((X1.o.trans (Ext.alloc w1 (.cells #[.int .i64 q1,.int .i64 E] 62))).trans (Ext.drew _));have HV:=ae (aw q1 E ((w1.alloc (.cells #[.int .i64 q1,.int .i64 E] 62)).drew));go_wp2_with fail;refine HV.o.mono ?_;rw[hv];rintro e w2 ⟨rfl,hx⟩;have lt:=LT.o;have G:w2.heap[w.heap.size]?=some (.cells #[.int .i64 0,.int .i64 0] 62 (0,0)):=(hx.block _ (by simp;omega)).trans ((bU w1 (.cells #[.int .i64 q1,.int .i64 E] 62) _ lt).trans HB.o);have hC:w2.heap[w1.heap.size]?=some (.cells #[.int .i64 q1,.int .i64 E] 62 (0,0)):=(hx.block _ e8).trans (heap_alloc_new w1 (.cells #[.int .i64 q1,.int .i64 E] 62));have b0:w2.cell? ⟨w.heap.size,0,none⟩=some (.int .i64 0):=by rw[cell_of_row _ _ _ _ _ _ G];rfl
   have b1:w2.cell? ⟨w.heap.size,1,none⟩=some (.int .i64 0):=by rw[cell_of_row _ _ _ _ _ _ G];rfl
   have c0:w2.cell? ⟨w1.heap.size,0,none⟩=some (.int .i64 q1):=by rw[cell_of_row _ _ _ _ _ _ hC];rfl
   have c1:w2.cell? ⟨w1.heap.size,1,none⟩=some (.int .i64 E):=by rw[cell_of_row _ _ _ _ _ _ hC];rfl
   have fb:∀o,w2.frozen? ⟨w.heap.size,o,none⟩=false:=fun o=>frozen_of_row _ _ _ _ _ G
   have X3:=ae (X2.o.trans hx);clear hx G hC lt
   go_wp2
   rw[HR.o]
  ·refine bodyPost_ret (v:=.tuple #[.agg #[.int .i64 0,.int .i64 0],.bool false]) (by simp[results,Tryz.results44,go_sem,b0,b1]) rfl ⟨by simp[xI,hv],?_⟩;exact(X3.o.setCell e8 _).setCell e8 _
  ·refine bodyPost_ret (v:=.tuple #[.agg #[.int .i64 q1,.int .i64 E],.bool true]) (by simp[results,Tryz.results44,go_sem,b0,b1]) rfl ⟨by simp[xI,hv],?_⟩;exact(X3.o.setCell e8 _).setCell e8 _
structure Rats(w:World)(a:j6)(n cap:Nat)(l:j4):Prop where
 hlen:l.length=n
 l8:n<=cap
 o0:cap<=9223372036854775807
 cell:∀k,k<n->∃b off,a=some ⟨b,off,none⟩/\∀k,k<n->w.cell? ⟨b,off+k*2,none⟩=some (.int .i64 (l[k]?.getD (0,0)).1)/\w.cell? ⟨b,off+k*2+1,none⟩=some (.int .i64 (l[k]?.getD (0,0)).2)
theorem Rats.ext{w':World}{a:j6}{n cap:Nat}(h:Rats w a n cap l)(hx:Ext w w'):Rats w' a n cap l :=
 ⟨h.hlen,h.l8,h.o0,fun k hk=>let⟨b,off,e,hc⟩:=h.cell k hk;⟨b,off,e,fun k hk=>⟨hx.j9 (hc k hk).1,hx.j9 (hc k hk).2⟩⟩⟩
theorem Rats.at{a:j6}{n cap:Nat}(h:Rats w a n cap l){k:Nat}(hk:k<n):
 ∃b off x y,a=some ⟨b,off,none⟩/\l[k]?.getD (0,0)=(x,y)/\w.cell? ⟨b,off+k*2,none⟩=some (.int .i64 x)/\w.cell? ⟨b,off+k*2+1,none⟩=some (.int .i64 y) :=
 let⟨b,off,e,hc⟩:=h.cell k hk;⟨b,off,_,_,e,rfl,(hc k hk).1,(hc k hk).2⟩
theorem fs{k:Nat}(h:k<l.length):l.take (k+1)=l.take k++[l[k]?.getD (0,0)]:=by
 rw[List.take_succ_eq_append_getElem h];simp[h]
def Jd(l:j4):Array Value:=(l.flatMap fun p=>[Value.int .i64 p.1,Value.int .i64 p.2]).toArray
theorem mt:∀(l:j4) (k:Nat),k<l.length->(l.flatMap fun p=>[Value.int .i64 p.1,Value.int .i64 p.2])[k*2]?=some (.int .i64 (l[k]?.getD (0,0)).1)/\(l.flatMap fun p=>[Value.int .i64 p.1,Value.int .i64 p.2])[k*2+1]?=some (.int .i64 (l[k]?.getD (0,0)).2)
 | [],k,h=>absurd h e8
 | p::l,0,_=>by simp
 | p::l,k+1,h=>by
   have:=mt l k (by simpa using h);rw[show(k+1)*2=k*2+1+1 by omega]
   simpa using this
theorem oP:∀(l:j4) (k:Nat) (x y:Int),k<l.length->((l.flatMap fun p=>[Value.int .i64 p.1,Value.int .i64 p.2]).set (k*2) (.int .i64 x)).set (k*2+1) (.int .i64 y)=(l.set k (x,y)).flatMap fun p=>[Value.int .i64 p.1,Value.int .i64 p.2]
 | [],k,_,_,h=>absurd h e8
 | p::l,0,_,_,_=>by simp
 | p::l,k+1,x,y,h=>by
   have:=oP l k x y (by simpa using h);rw[show(k+1)*2=k*2+1+1 by omega]
   simpa using this
theorem kz:∀l:j4,(l.flatMap fun p=>[Value.int .i64 p.1,Value.int .i64 p.2]).length=l.length*2
 | []=>rfl
 | p::l=>by have:=kz l;simp at this⊢;omega
def RRow(w:World)(b:Nat)(t:TypeId)(l:j4):Prop:=w.heap[b]?=some (.cells (Jd l) t (0,0))
theorem Tryz.MG:(Tryz.prog.info? 62).map (fun i=>(i.zero,i.size,i.bytes))=some (some (.agg #[.int .i64 0,.int .i64 0]),2,16):=by kernel_rfl
end Go.Proofs.YtdadoignenffgaaGreatDoor
