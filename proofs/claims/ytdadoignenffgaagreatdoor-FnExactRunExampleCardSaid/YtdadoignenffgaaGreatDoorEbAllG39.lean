import Derived.Test.YtdadoignenffgaaGreatDoorEbAllG36
import Derived.Test.YtdadoignenffgaaGreatDoorEbAllG37
import Derived.Test.YtdadoignenffgaaGreatDoorEbAllG0
set_option linter.unusedVariables false
set_option linter.unusedSimpArgs false
namespace Go.Proofs.YtdadoignenffgaaGreatDoor
variable{l:List UInt8}{m:Nat}{w:World}
set_option maxHeartbeats 16000000
set_option maxRecDepth 100000
open Go.RowKit
theorem mM(h:l.length<1∨m<l.length):aw l m=-1:=by unfold aw;rw[hD e7]
theorem wM(h:1<l.length)(h0:l[0]?=some 48):aw l m=-1:=by
 unfold aw;rw[hD (fun g=>by rcases g.2.1 with h2|h2;omega;exact h2 h0)]
theorem yw{k:Nat}{c:UInt8}(hk:l[k]?=some c)(hc:cv c=false):aw l m=-1:=by
 unfold aw
 rw[hD (fun g=>by
  have:=Di.1 g.2.2 c (aaf hk)
  rw[hc]at this;cases this)]
theorem yu(h1:1<=l.length)(h2:l.length<=m)(h3:l.length<=1∨l[0]?≠some 48)(ha:(l.take l.length).all cv=true):aw l m=(zS (l.take l.length):Int):=by
 rw[aaN]at *;unfold aw;rw[hI ⟨⟨h1,h2⟩,h3,ha⟩]
theorem jb(l:List UInt8)(m:Nat)(hm:m<=12):
 Calls Tryz.prog 118 #[.string (bs l),.int .i64 (m:Int)] w fun e w'=>e=.returned (.int .i64 (aw l m))/\w'=w:=by
 obtain⟨t,ht⟩:=b9 (bs l);have hs:t.size=l.length:=by rw[ht,aW]
 have HS:=ae hs;have O:=ae (show∀(k:Nat) (h:k<t.size),t[k]=l[k]?.getD 0 by subst ht;intro k h;exact oc h);rw[<-ht];clear ht;by_cases h1:t.size<1
 ·have HR:=ae (mM (l:=l) (m:=m) e7);clear hs;go_enter adx,ada
  go_wp2_with fail;go_ret;exact⟨ap HR.o.symm,rfl⟩
 by_cases h2:m<t.size
 ·have HR:=ae (mM (l:=l) (m:=m) e7);clear hs;go_enter adx,ada
  go_wp2_with fail;go_ret;exact⟨ap HR.o.symm,rfl⟩
 have h01:1<=l.length:=by omega
 obtain⟨c0,AB⟩:=b9 (l[0]?.getD 0);have e0:l[0]?=some c0:=by rw[AB,bk e7];rfl
 have HQ:∀h:0<t.size,t[0]=c0:=fun h=>by rw[O.o 0 h,AB]
 by_cases h3:1<t.size/\c0=48
 ·obtain⟨h3,h4⟩:=h3;have HR:=ae (wM (l:=l) (m:=m) e7 (by rw[e0,h4]));rw[h4]at HQ;clear hs h01 AB e0 h4;go_enter adx,ada
  go_wp2_with fail;go_ret;exact⟨ap HR.o.symm,rfl⟩
 have HC:=ae (show l.length<=1∨l[0]?≠some 48 by
  rcases ab5 1 t.size with h5|h5
  ·right
   intro e;rw[e0,bA]at e;exact h3 ⟨h5,e⟩
  ·left;omega)
 have hne:1<t.size->((c0.toNat:Int) == 48)=false:=fun h5=>by
  have:c0≠48:=fun e=>h3 ⟨h5,e⟩
  have h6:c0.toNat≠48:=fun e=>this (abV.1 (by rw[e];rfl))
  simp;omega
 clear h3;have HB:=ae (show t.size<=12 by omega);clear AB e0 hs h01;go_enter adx,ada
 go_upto_region 1 with fail
 go_cut [25] (fun v wx=>v=.bool false/\b7 (w=wx))
 case first =>
  by_cases h5:1<t.size
  ·have hnf:=hne h5;clear hne;go_wp2_with fail;go_meet;exact⟨by rw[u' e7],rfl⟩
  ·clear hne;go_wp2_with fail;go_meet;exact⟨by rw[u' e7],rfl⟩
 obtain⟨rfl,hw⟩:=hcut;obtain rfl:=hw.out;clear hw hne HQ;go_wp2_with fail
 go_loopg [5,6] t.size (fun gk nn ii wr=>∃(k:Nat),b7 (gk+k=t.size)/\nn=.int .i64 (zS (l.take k):Int)/\ii=.int .i64 (k:Int)/\b7 ((l.take k).all cv=true)/\b7 (w=wr))
 case atStart=>exact⟨0,ae rfl,rfl,rfl,ae rfl,ae rfl⟩
 case round =>
  obtain⟨g1,Q⟩:=b9 gk;subst Q;obtain⟨wr,U⟩:=b9 wr;subst U;obtain⟨k,I,rfl,rfl,HA,HW⟩:=hrel;obtain rfl:=HW.o;obtain⟨v,hv⟩:=b9 (zS (l.take k));have HV:=ae hv;rw[<-hv];clear hv;have Eg:=ae (show v<1000000000000 by rw[HV.o];exact rz (m:=t.size) HA.o (j1 I.o) HB.o);by_cases hk:k<t.size
  ·obtain⟨c,hc⟩:=b9 (l[k]?.getD 0);have hkc:∀h:k<t.size,t[k]=c:=fun h=>by rw[O.o k h,hc]
   have e1:l[k]?=some c:=by rw[hc,bk (by rw[<-HS.o];exact hk)];rfl
   have HE:=ae e1;clear hc e1;by_cases hd:cv c=true
   ·have Bw:=ae (eX HE.o);unfold cv at hd;rw[sw]at hd;obtain⟨d,G⟩:∃d,c.toNat=d+48:=⟨c.toNat-48,by omega⟩;have J:d<=9:=by omega
    have A4:=Eg.o;have Kk:IntKind.u8.wrap (((d+48:Nat):Int)-48)=(d:Int):=by rw[aby];omega
    have hci:(c.toNat:Int)=((d+48:Nat):Int):=by rw[G]
    have VF:=ae (show zS (l.take (k+1))=10*v+d by rw[Bw.o,iq,<-HV.o,G];omega);have K:=ae (show(l.take (k+1)).all cv=true by rw[Bw.o,RN,HA.o];simp[cv,G,J]);go_wp2_with fail
    go_roundg (g1-1)
    case measure=>have:=I.o;omega
    case rel=>exact⟨k+1,ae (j1 I.o),by rw[VF.o];go_num,by go_num,K,ae rfl⟩
   ·have HR:=ae (yw (m:=m) HE.o (by simpa using hd));unfold cv at hd;rw[sw]at hd
    rcases ab5 c.toNat 48 with h6|h6
    ·go_wp2_with fail;go_ret;exact⟨ap HR.o.symm,rfl⟩
    ·have h7:57<c.toNat:=by omega
     go_wp2_with fail;go_ret;exact⟨ap HR.o.symm,rfl⟩
  ·have Ha:k=t.size:=by have:=I.o;omega
   have HR:=ae (show aw l m=(v:Int)by
    have e:l.length=k:=by rw[Ha,HS.o]
    rw[HV.o,<-e]
    exact yu (by rw[<-HS.o];omega) (by rw[<-HS.o];omega) HC.o (by rw[e];exact HA.o))
   go_wp2_with fail;go_ret;exact⟨ap HR.o.symm,rfl⟩
theorem xe(l:List UInt8):Lib.trimPrefix l [45]=if l[0]?=some 45 then l.drop 1 else l:=by
 cases l with
 | nil=>rfl
 | cons c r =>
   by_cases hc:c=45
   ·subst hc;rfl
   ·rw[hD (by simpa using hc)];simp[Lib.trimPrefix,Lib.hasPrefix,hc,aax hc]
theorem rC(l:List UInt8):Calls Tryz.prog 116 #[.string (bs l)] w fun e w'=>e=.returned (.tuple #[.int .i64 (if 0<=aw l 6 then aw l 6 else 0),.bool (decide (0<=aw l 6))])/\w'=w:=by
 have HD:=ae (jb (w:=w) l 6 e7);obtain⟨v,hv⟩:=b9 (aw l 6);rw[<-hv]at HD;rw[<-hv];by_cases h0:0<=v
 ·rw[hI h0,z' h0];have G:max v 0=v:=by omega
  clear hv;go_enter Tryz.func116,Tryz.ntmps116
  go_wp2_with fail;refine HD.o.mono ?_;rintro e w1 ⟨rfl,rfl⟩;go_wp2_with fail
  go_ret2
  exact⟨rfl,rfl⟩
 ·rw[hD h0,u' h0];have G:max v 0=0:=by omega
  clear hv;go_enter Tryz.func116,Tryz.ntmps116
  go_wp2_with fail;refine HD.o.mono ?_;rintro e w1 ⟨rfl,rfl⟩;go_wp2_with fail
  go_ret2
  refine⟨?_,rfl⟩
  show Ending.returned (.tuple #[.int .i64 0,.bool (decide (0<=v))])=_;rw[u' e7]
theorem Nh(l:List UInt8)(hm:m<=12):-1<=aw l m/\aw l m<1000000000000:=by
 unfold aw
 split
 ·next h =>
  have h2:=vI l h.2.2;have h3:10^l.length<=10^12:=acz (by decide) e7;omega
 ·omega
theorem wv(l:List UInt8):Calls Tryz.prog 60 #[.string (bs l)] w fun e w'=>e=.returned (.tuple #[.int .i64 ((dS l).getD 0),.bool (dS l).isSome])/\w'=w:=by
 have HT:=Any.strings_TrimPrefix NH (bs l) ⟨#[45]⟩ w;have e:Lib.trimPrefix (bs l).data.toList (⟨#[45]⟩:ByteArray).data.toList=if l[0]?=some 45 then l.drop 1 else l:=xe l
 rw[e]at HT;clear e;by_cases G:l[0]?=some 45
 ·rw[hI G]at HT;have HD:=ae (jb (w:=w) (l.drop 1) 12 e7);have HR:=ae (show dS l=if 1<=aw (l.drop 1) 12 then some (-(aw (l.drop 1) 12)) else none by unfold dS;rw[hI G]);obtain⟨v,hv⟩:=b9 (aw (l.drop 1) 12);rw[<-hv]at HD HR;have hne:((bs (l.drop 1)).toList == (bs l).toList)=false:=by
   rw[bW,bW,abt];intro e;have:=Jr List.length e;rw[aaj]at this;have h2:=(RI.1 G).1;omega
  have hb:=Nh (l.drop 1) (m:=12) e7;rw[<-hv]at hb;have HW:=ae (show wrap64 (-v)=-v by unfold wrap64;omega);obtain⟨t1,I⟩:=b9 (bs (l.drop 1));obtain⟨t,ht⟩:=b9 (bs l);have Dh:=ae (show Calls Tryz.prog 117 #[.string t,.string ⟨#[45]⟩] w (fun e w'=>e=.returned (.string t1)/\w'=w)by rw[ht,I];exact HT);clear HT;rw[<-I]at HD hne;rw[<-ht]at hne;rw[<-ht];clear ht I hv G hb;by_cases h1:1<=v
  ·rw[hI h1]at HR;rw[HR.o];go_enter adU,ady
   go_wp2_with fail;refine Dh.o.mono ?_;rintro e w1 ⟨rfl,rfl⟩;go_wp2_with fail;refine HD.o.mono ?_;rintro e w1 ⟨rfl,rfl⟩;go_wp2_with fail
   go_ret2
   refine⟨?_,rfl⟩
   show Ending.returned (.tuple #[.int .i64 (wrap64 (-v)),.bool true])=_;rw[HW.o]
   rfl
  ·rw[hD h1]at HR;rw[HR.o];go_enter adU,ady
   go_wp2_with fail;refine Dh.o.mono ?_;rintro e w1 ⟨rfl,rfl⟩;go_wp2_with fail;refine HD.o.mono ?_;rintro e w1 ⟨rfl,rfl⟩;go_wp2_with fail
   all_goals
    go_ret2
    first|exact⟨rfl,rfl⟩|exact⟨by rw[show v=0 by omega];rfl,rfl⟩
 ·rw[hD G]at HT;have HD:=ae (jb (w:=w) l 12 e7);have HR:=ae (show dS l=if 0<=aw l 12 then some (aw l 12) else none by unfold dS;rw[hD G]);obtain⟨v,hv⟩:=b9 (aw l 12);rw[<-hv]at HD HR;obtain⟨t,ht⟩:=b9 (bs l);have Dh:=ae (show Calls Tryz.prog 117 #[.string t,.string ⟨#[45]⟩] w (fun e w'=>e=.returned (.string t)/\w'=w)by rw[ht];exact HT);clear HT;rw[<-ht]at HD;rw[<-ht];clear ht hv G;by_cases h1:0<=v
  ·rw[hI h1]at HR;rw[HR.o];go_enter adU,ady
   go_wp2_with fail;refine Dh.o.mono ?_;rintro e w1 ⟨rfl,rfl⟩;go_wp2_with fail;refine HD.o.mono ?_;rintro e w1 ⟨rfl,rfl⟩;go_wp2_with fail
   all_goals
    go_ret2
    first|exact⟨rfl,rfl⟩|exact⟨by rw[show v=0 by omega];rfl,rfl⟩
  ·rw[hD h1]at HR;rw[HR.o];go_enter adU,ady
   go_wp2_with fail;refine Dh.o.mono ?_;rintro e w1 ⟨rfl,rfl⟩;go_wp2_with fail;refine HD.o.mono ?_;rintro e w1 ⟨rfl,rfl⟩;go_wp2_with fail
   go_ret2
   exact⟨rfl,rfl⟩
theorem uz(l:List UInt8):Lib.hasPrefix l [112,108,97,121,101,114,115,32]=decide (l.take 8=Ik++[32]):=by
 unfold Lib.hasPrefix;rw[U9,List.isPrefixOf_iff_prefix,sw,List.prefix_iff_eq_take];exact eq_comm
theorem rF(l:List UInt8):Calls Tryz.prog 58 #[.string (bs l)] w fun e w'=>(∃n:Int,e=.returned (.tuple #[.int .i64 n,.bool (dq l).isSome])/\∀k,dq l=some k->n=k)/\w'=w:=by
 have HT:=Any.strings_CutPrefix Rb (bs l) ⟨#[112,108,97,121,101,114,115,32]⟩ w;have e1:Lib.hasPrefix (bs l).data.toList (⟨#[112,108,97,121,101,114,115,32]⟩:ByteArray).data.toList=decide (l.take 8=Ik++[32]):=uz l;have e2:Lib.trimPrefix (bs l).data.toList (⟨#[112,108,97,121,101,114,115,32]⟩:ByteArray).data.toList=if decide (l.take 8=Ik++[32])=true then l.drop 8 else l:=by
  unfold Lib.trimPrefix;rw[e1];rfl
 rw[e1,e2]at HT;clear e1 e2;obtain⟨dl,G⟩:=b9 (if decide (l.take 8=Ik++[32])=true then l.drop 8 else l)
 obtain⟨b,hb⟩:=b9 (decide (l.take 8=Ik++[32]));have Dh:=ae (show Calls Tryz.prog 115 #[.string (bs l),.string ⟨#[112,108,97,121,101,114,115,32]⟩] w (fun e w'=>e=.returned (.tuple #[.string (bs dl),.bool b])/\w'=w)by rw[G,hb];exact HT);clear HT;have HP:=ae (rC (w:=w) dl)
 have HF:=ae (show dq l=if b=true then(if 0<=aw dl 6 then(if 1<=aw dl 6/\aw dl 6<=5 then some (aw dl 6) else none) else none) else none by
  unfold dq;by_cases h:l.take 8=Ik++[32]
  ·rw[hb,G];simp[h]
  ·rw[hb,G];simp[h])
 obtain⟨v,hv⟩:=b9 (aw dl 6);rw[<-hv]at HP HF;obtain⟨R,I⟩:=b9 (dq l);rw[<-I]at HF;rw[<-I];clear I hv hb G;cases b with
 | false =>
   obtain rfl:=(show R=none from HF.o);go_enter adV,adz
   go_wp2_with fail;refine Dh.o.mono ?_;rintro e w1 ⟨rfl,rfl⟩;go_wp2_with fail;refine HP.o.mono ?_;rintro e w1 ⟨rfl,rfl⟩;go_wp2_with fail
   all_goals
    go_ret2
    first|exact⟨⟨_,rfl,fun k h=>by cases h⟩,rfl⟩|exact⟨⟨_,rfl⟩,rfl⟩
 | true =>
   by_cases h0:0<=v
   ·rw[hI h0,z' h0]at HP;by_cases h1:1<=v/\v<=5
    ·obtain rfl:=(show R=some v by rw[HF.o,hI rfl,hI h0,hI h1]);obtain⟨h2,h3⟩:=h1;go_enter adV,adz
     go_wp2_with fail;refine Dh.o.mono ?_;rintro e w1 ⟨rfl,rfl⟩;go_wp2_with fail;refine HP.o.mono ?_;rintro e w1 ⟨rfl,rfl⟩;go_wp2_with fail;refine(aq _ _ _ _).mono ?_;rintro e w2 ⟨rfl,rfl⟩;have zU:r9 v 1 5=true:=by unfold r9;simp;omega
     go_wp2_with fail
     go_ret2
     exact⟨⟨_,rfl,fun k h=>by cases h;rfl⟩,rfl⟩
    ·obtain rfl:=(show R=none by rw[HF.o,hI rfl,hI h0,hD h1]);go_enter adV,adz
     go_wp2_with fail;refine Dh.o.mono ?_;rintro e w1 ⟨rfl,rfl⟩;go_wp2_with fail;refine HP.o.mono ?_;rintro e w1 ⟨rfl,rfl⟩;go_wp2_with fail;refine(aq _ _ _ _).mono ?_;rintro e w2 ⟨rfl,rfl⟩;have zU:r9 v 1 5=false:=by unfold r9;rw[Bool.eq_false_iff];intro h;simp at h;omega
     go_wp2_with fail
     go_ret2
     first|exact⟨⟨_,rfl,fun k h=>by cases h⟩,rfl⟩|exact⟨⟨_,rfl⟩,rfl⟩
   ·rw[hD h0,u' h0]at HP;obtain rfl:=(show R=none by rw[HF.o,hI rfl,hD h0]);go_enter adV,adz
    go_wp2_with fail;refine Dh.o.mono ?_;rintro e w1 ⟨rfl,rfl⟩;go_wp2_with fail;refine HP.o.mono ?_;rintro e w1 ⟨rfl,rfl⟩;go_wp2_with fail
    go_ret2
    first|exact⟨⟨_,rfl,fun k h=>by cases h⟩,rfl⟩|exact⟨⟨_,rfl⟩,rfl⟩
theorem qX{l:j4}{k:Nat}(h:k<l.length):(l.take k).map AG++[AG (l[k]?.getD (0,0))]=(l.take (k+1)).map AG:=by
 rw[bk h,l',Kn h,We]
 rfl
theorem jM {w: World}{a: Option Addr}{n cap: Nat}{l: List (Int × Int)}(h : Rats w a n cap l)(hn : n <= 100000)(ht : Lib.TabIs Tryz.prog w "internal/strconv.uint64pow10" .u64 Lib.pow10Tab) :
 Calls Tryz.prog 27 #[.slice a n cap] w fun e w'=>e=.returned (.string (bs (D3 l)))/\Ext w w':=by
 have HT:=ae ht;have HL:=ae h.hlen;have YA:=h.l8;have Iu:=h.l9;have HS:=ae h;have HO:=ae (zd.Az zH 9 w w.heap.size _ rfl (ao _));have HV:=ae (gX (l:=l));clear h ht;go_enter Tryz.func27,Tryz.ntmps27
 go_wp2_with fail
 go_loopg [3,9] n (fun gk tt kk wr=>∃(k m cp:Nat) (b:j6),b7 (gk+k=n)/\tt=.slice b m cp/\kk=.int .i64 (k:Int)/\b7 (zd zH 9 wr w.heap.size (.slice b m cp) ((l.take k).map AG))/\b7 (Ext w wr))
 case atStart=>exact⟨0,0,0,_,ae e7,rfl,rfl,HO,ae (Ext.alloc _ _)⟩
 case round =>
  obtain⟨g1,o7⟩:=b9 gk;subst o7;obtain⟨wr,Aw⟩:=b9 wr;subst Aw;obtain⟨k,m,cp,b,HK,rfl,rfl,HB,HX⟩:=hrel;have YN:(0:Int)<=(k:Int):=by omega
  by_cases hlt:k<n
  ·have CX:(k:Int)<(n:Int):=by omega
   obtain⟨lb,lo,x,y,rfl,Bm,AB,Ba⟩:=(HS.o.ext HX.o).at hlt;have HJ:=ae (qX (l:=l) (k:=k) (by rw[HL.o];exact hlt));rw[Bm]at HJ;have HF:=ae (fun(w':World) (hx:Ext w w')=>uC (w:=w') x y (ec HT.o hx));have Bs:=ae (show((l.take k).map AG).length<=100000 by rw[zo,FX];omega);obtain⟨tr,Rm⟩:=b9 (AG (x,y));rw[<-Rm]at HJ HF;obtain⟨W1,Ix⟩:=b9 (wr.alloc (.cells #[.int .i64 x,.int .i64 y] 62));have X1:=ae (show Ext wr W1 by rw[Ix];exact Ext.alloc _ _);have Fu:W1.cell? ⟨wr.heap.size,0,none⟩=some (.int .i64 x):=by rw[Ix];simp
   have BR:W1.cell? ⟨wr.heap.size,1,none⟩=some (.int .i64 y):=by rw[Ix];simp
   clear Bm Rm;go_upto_region 5 with fail;rw[<-Ix];clear Ix;go_wp2_with fail;refine(HF.o _ (HX.o.trans X1.o)).mono ?_;rintro e w2 ⟨rfl,hx⟩;have X2:=ae ((HX.o.trans X1.o).trans hx);have Ck:=ae ((HB.o.ext X1.o).ext hx);clear hx Fu BR AB Ba;have CS:=ae (BU.lit zH 9 w2 [tr] 1 rfl #[.string (bs tr)] rfl w2.heap.size rfl e7);go_wp2_with (first|(at_builtin;refine eU zH Tryz.CO rfl aaD (by decide) rfl _ _ rfl w.heap.size (.slice b m cp) ((l.take k).map AG) rfl (Ck.o.ext (Ext.alloc _ _)) _ 1 1 [tr] rfl CS.o (j1 Bs.o) (by have:=X2.o.size;simp;omega) ?_;intro v6 w6 ho hg k9;obtain⟨a6,n6,c6,rfl,H'⟩:=ho.var;rw[HJ.o]at ho;have Cf:=ae ho;have E8:=ae (ak (X2.o.trans (Ext.alloc _ _)) hg (fun j hj=>(Ck.o.lt j hj).1));clear ho hg k9))
   go_roundg (g1-1)
   case measure=>have:=HK.o;omega
   case rel=>exact⟨k+1,n6,c6,a6,ae (j1 HK.o),rfl,by go_num,Cf,E8⟩
  ·have zQ:k=n:=by have:=HK.o;omega
   have HE:=ae (show(l.take k).map AG=l.map AG by rw[p4 (by rw[HL.o];omega)]);have CX:¬(k:Int)<(n:Int):=by omega
   clear zQ;have Je:=ae (show zd zH 9 wr w.heap.size (.slice b m cp) (l.map AG)by rw[<-HE.o];exact HB.o);have HJ:=ae (T8 Je.o [32] (by have:=Je.o.Ej.hlen;rw[zo,HL.o]at this;omega) (by have:=HV.o;unfold D3 at this;rw[HL.o]at this;omega));go_wp2_with fail;refine HJ.o.mono ?_;rintro e w2 ⟨rfl,hx⟩;have X2:=ae (HX.o.trans hx);clear hx;go_wp2_with fail;go_ret;exact⟨rfl,X2.o⟩
theorem jR{a:j6}{n cap:Nat}{l:j4}(h:Rats w a n cap l)(hn:n<=100000):
 Calls Tryz.prog 20 #[.slice a n cap] w fun e w'=>e=.returned (.string (bs (D3 l)))/\Ext w w':=by
 have HL:=ae h.hlen;have YA:=h.l8;have Iu:=h.l9;have HS:=ae h;have HO:=ae (zd.Az zH 9 w w.heap.size _ rfl (ao _));have HV:=ae (gX (l:=l));clear h;go_enter Tryz.func20,Tryz.ntmps20
 go_wp2_with fail
 go_loopg [3,4] n (fun gk tt kk wr=>∃(k m G:Nat) (b:j6),b7 (gk+k=n)/\tt=.slice b m G/\kk=.int .i64 (k:Int)/\b7 (zd zH 9 wr w.heap.size (.slice b m G) ((l.take k).map AG))/\b7 (Ext w wr))
 case atStart=>exact⟨0,0,0,_,ae e7,rfl,rfl,HO,ae (Ext.alloc _ _)⟩
 case round =>
  obtain⟨g1,U⟩:=b9 gk;subst U;obtain⟨wr,Aw⟩:=b9 wr;subst Aw;obtain⟨k,m,G,b,J,rfl,rfl,HB,HX⟩:=hrel;have YN:(0:Int)<=(k:Int):=by omega
  by_cases hlt:k<n
  ·have CX:(k:Int)<(n:Int):=by omega
   obtain⟨lb,lo,x,y,rfl,O,AB,Ba⟩:=(HS.o.ext HX.o).at hlt;have HJ:=ae (qX (l:=l) (k:=k) (by rw[HL.o];exact hlt));rw[O]at HJ;have HF:=ae (fun(w':World)=>uL (w:=w') x y);have Bs:=ae (show((l.take k).map AG).length<=100000 by rw[zo,FX];omega);obtain⟨I,K⟩:=b9 (AG (x,y));rw[<-K]at HJ HF;clear O K;go_wp2_with fail;refine(HF.o _).mono ?_;rintro e w2 ⟨rfl,hx⟩;have X2:=ae (HX.o.trans hx);have Ck:=ae (HB.o.ext hx);clear hx AB Ba;have CS:=ae (BU.lit zH 9 w2 [I] 1 rfl #[.string (bs I)] rfl w2.heap.size rfl e7);go_wp2_with (first|(at_builtin;refine eU zH Tryz.CO rfl aaD (by decide) rfl _ _ rfl w.heap.size (.slice b m G) ((l.take k).map AG) rfl (Ck.o.ext (Ext.alloc _ _)) _ 1 1 [I] rfl CS.o (j1 Bs.o) (by have:=X2.o.size;simp;omega) ?_;intro v6 w6 ho hg k9;obtain⟨a6,Z,c6,rfl,H'⟩:=ho.var;rw[HJ.o]at ho;have Cf:=ae ho;have E8:=ae (ak (X2.o.trans (Ext.alloc _ _)) hg (fun j hj=>(Ck.o.lt j hj).1));clear ho hg k9))
   go_roundg (g1-1)
   case measure=>have:=J.o;omega
   case rel=>exact⟨k+1,Z,c6,a6,ae (j1 J.o),rfl,by go_num,Cf,E8⟩
  ·have Q:k=n:=by have:=J.o;omega
   have HE:=ae (show(l.take k).map AG=l.map AG by rw[p4 (by rw[HL.o];omega)]);have CX:¬(k:Int)<(n:Int):=by omega
   clear Q;have Je:=ae (show zd zH 9 wr w.heap.size (.slice b m G) (l.map AG)by rw[<-HE.o];exact HB.o);have HJ:=ae (TU Je.o [32] (by have:=Je.o.Ej.hlen;rw[zo,HL.o]at this;omega) (by have:=HV.o;unfold D3 at this;rw[HL.o]at this;simp only[OX,aap];omega));go_wp2_with fail;refine HJ.o.mono ?_;rintro e w2 ⟨rfl,hx⟩;have X2:=ae (HX.o.trans hx);clear hx;go_wp2_with fail;go_ret;exact⟨rfl,X2.o⟩
theorem vP{a:j6}{n cap:Nat}{l:List (List UInt8)}(h:BU zH w a n cap l)(hb:n<=1099511627776):
 Calls Tryz.prog 68 #[.slice a n cap] w fun e w'=>∃v,e=.returned v/\zd zH 9 w' w.heap.size v l/\Ext w w':=by
 have heq:∀w':World,(binOp .eql 53 (.slice a n cap) (.slice none 0 0)).run Tryz.prog w'=.ok (.bool a.isNone) w':=fun w'=>abJ w' _ _ a n cap 0 0 aaD
 have HL:=ae h.hlen;cases a with
 | none =>
   have hl:l=[]:=by
    have:¬0<n:=fun hn=>by obtain⟨b,off,e,_⟩:=h.cell 0 hn;cases e
    exact Lj (j1 HL.o)
   simp only[ab0]at heq;go_enter Tryz.func68,Tryz.ntmps68
   go_wp2
   go_ret;exact⟨_,rfl,by rw[hl];exact zd.nil _ _ w _,Ext.refl _⟩
 | some ad =>
   simp only[ab1]at heq;have HI:=ae (h.ext (Ext.alloc w (.cells #[] 9)));have HO:=ae (zd.Az zH 9 w w.heap.size _ rfl (ao _));clear h;go_enter Tryz.func68,Tryz.ntmps68
   go_wp2_with (first|(at_builtin;refine eU zH Tryz.CO rfl aaD (by decide) rfl _ _ rfl w.heap.size _ _ rfl HO.o _ n _ l rfl HI.o (by simpa using hb) e8 ?_;intro v' w1 ho hg k9));go_ret;exact⟨_,rfl,ho,ak (Ext.alloc _ _) hg (fun k hk=>aas (Og (show some w.heap.size=some k from hk)))⟩
def te:List (List UInt8):=[[98,97,100],[112,111,105,110,116],[101,109,112,116,121],[108,105,109,105,116]]
theorem rM(c:Nat)(hc:c<4):te[c]?=some (gZ (c:Int)):=by
 rcases c with _|_|_|_|c
 all_goals first|rfl|omega
theorem wq(c:Nat)(hc:c<4):Calls Tryz.prog 25 #[.int .i64 (c:Int)] w fun e w'=>e=.returned (.string (bs (gZ (c:Int))))/\Ext w w':=by
 have CS:=ae (BU.lit zH 9 w te 4 rfl #[.string ⟨#[98,97,100]⟩,.string ⟨#[112,111,105,110,116]⟩,.string ⟨#[101,109,112,116,121]⟩,.string ⟨#[108,105,109,105,116]⟩] rfl w.heap.size rfl e7);have Ja:=ae (show r9 (c:Int) 0 3=true by unfold r9;simp;omega);have Q:=ae (rM c hc);have CV:=ae (vP CS.o e7);have AB:(0:Int)<=(c:Int):=by omega
 have Zb:(c:Int)<4:=by omega
 obtain⟨O,I⟩:=b9 (w.alloc (.cells #[.string ⟨#[98,97,100]⟩,.string ⟨#[112,111,105,110,116]⟩,.string ⟨#[101,109,112,116,121]⟩,.string ⟨#[108,105,109,105,116]⟩] 9));have X1:=ae (show Ext w O by rw[I];exact Ext.alloc _ _);rw[<-I]at CV;go_enter Tryz.func25,Tryz.ntmps25
 go_upto_region 2 with fail;rw[<-I];clear I;go_wp2_with fail;refine(aq _ _ _ _).mono ?_;rintro e w2 ⟨rfl,rfl⟩;have zU:=Ja.o;go_wp2_with fail;refine CV.o.mono ?_;rintro e w2 ⟨v,rfl,ho,hx⟩;have X2:=ae (X1.o.trans hx);obtain⟨a2,K,c2,rfl,J⟩:=ho.var;obtain rfl:K=4:=J.o.symm;obtain⟨lb,rfl,_⟩:=ho.block (k:=0) e7;have G:=dH ho.Ej Q.o;rw[Mf]at G;clear ho hx J;go_wp2_with fail;go_ret;exact⟨rfl,X2.o⟩
theorem wR(c:Nat)(hc:c<4):Calls Tryz.prog 18 #[.int .i64 (c:Int)] w fun e w'=>e=.returned (.string (bs (gZ (c:Int))))/\Ext w w':=by
 have CS:=ae (BU.lit zH 9 w te 4 rfl #[.string ⟨#[98,97,100]⟩,.string ⟨#[112,111,105,110,116]⟩,.string ⟨#[101,109,112,116,121]⟩,.string ⟨#[108,105,109,105,116]⟩] rfl w.heap.size rfl e7);have Ja:=ae (show r9 (c:Int) 0 3=true by unfold r9;simp;omega);have G:=dH CS.o (rM c hc);rw[Mf]at G;have AB:(0:Int)<=(c:Int):=by omega
 have Zb:(c:Int)<4:=by omega
 go_enter Tryz.func18,Tryz.ntmps18
 go_wp2_with fail;refine(aZ _ _ _ _).mono ?_;rintro e w2 ⟨rfl,rfl⟩;have zU:=Ja.o;go_wp2_with fail;go_ret;exact⟨rfl,Ext.alloc _ _⟩
