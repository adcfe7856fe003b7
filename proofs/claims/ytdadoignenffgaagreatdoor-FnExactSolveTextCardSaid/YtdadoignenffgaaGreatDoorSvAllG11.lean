import Derived.Test.YtdadoignenffgaaGreatDoorSvAllG6
import Derived.Test.YtdadoignenffgaaGreatDoorSvAllG7
import Derived.Test.YtdadoignenffgaaGreatDoorSvAllG1
import Derived.Test.YtdadoignenffgaaGreatDoorSvAllG8
set_option linter.unusedVariables false
set_option linter.unusedSimpArgs false
namespace Go.Proofs.YtdadoignenffgaaGreatDoor
variable{l:List UInt8}{m:Nat}{w:World}
set_option maxHeartbeats 16000000
set_option maxRecDepth 100000
open Go.RowKit
theorem kt(h:l.length<1∨m<l.length):aq l m=-1:=by unfold aq;rw[if_neg e7]
theorem sT(h:1<l.length)(h0:l[0]?=some 48):aq l m=-1:=by
 unfold aq;rw[if_neg (fun g=>by rcases g.2.1 with h2|h2;omega;exact h2 h0)]
theorem uw{k:Nat}{c:UInt8}(hk:l[k]?=some c)(hc:bV c=false):aq l m=-1:=by
 unfold aq
 rw[if_neg (fun g=>by
  have:=List.all_eq_true.1 g.2.2 c (List.mem_of_getElem? hk)
  rw[hc]at this;cases this)]
theorem uv(h1:1<=l.length)(h2:l.length<=m)(h3:l.length<=1∨l[0]?≠some 48)(ha:(l.take l.length).all bV=true):aq l m=(vM (l.take l.length):Int):=by
 rw[List.take_length]at *;unfold aq;rw[if_pos ⟨⟨h1,h2⟩,h3,ha⟩]
theorem gW(l:List UInt8)(m:Nat)(hm:m<=12):
 Calls Tryz.prog 118 #[.string (bs l),.int .i64 (m:Int)] w fun e w'=>e=.returned (.int .i64 (aq l m))/\w'=w:=by
 obtain⟨t,ht⟩:=b9 (bs l);have hs:t.size=l.length:=by rw[ht,aQ]
 have HS:=ae hs;have J:=ae (show∀(k:Nat) (h:k<t.size),t[k]=l[k]?.getD 0 by subst ht;intro k h;exact lj h);rw[<-ht];clear ht;by_cases h1:t.size<1
 ·have HR:=ae (kt (l:=l) (m:=m) e7);clear hs;go_enter Tryz.func118,Tryz.ntmps118
  go_wp2_with fail;go_ret;exact⟨aD HR.o.symm,rfl⟩
 by_cases h2:m<t.size
 ·have HR:=ae (kt (l:=l) (m:=m) e7);clear hs;go_enter Tryz.func118,Tryz.ntmps118
  go_wp2_with fail;go_ret;exact⟨aD HR.o.symm,rfl⟩
 have h01:1<=l.length:=by omega
 obtain⟨c0,wK⟩:=b9 (l[0]?.getD 0);have e0:l[0]?=some c0:=by rw[wK,List.getElem?_eq_getElem e7];rfl
 have HQ:∀h:0<t.size,t[0]=c0:=fun h=>by rw[J.o 0 h,wK]
 by_cases h3:1<t.size/\c0=48
 ·obtain⟨h3,h4⟩:=h3;have HR:=ae (sT (l:=l) (m:=m) e7 (by rw[e0,h4]));rw[h4]at HQ;clear hs h01 wK e0 h4;go_enter Tryz.func118,Tryz.ntmps118
  go_wp2_with fail;go_ret;exact⟨aD HR.o.symm,rfl⟩
 have HC:=ae (show l.length<=1∨l[0]?≠some 48 by
  rcases Nat.lt_or_ge 1 t.size with h5|h5
  ·right
   intro e;rw[e0,Option.some.injEq]at e;exact h3 ⟨h5,e⟩
  ·left;omega)
 have hne:1<t.size->((c0.toNat:Int) == 48)=false:=fun h5=>by
  have:c0≠48:=fun e=>h3 ⟨h5,e⟩
  have h6:c0.toNat≠48:=fun e=>this (UInt8.toNat_inj.1 (by rw[e];rfl))
  simp;omega
 clear h3;have HB:=ae (show t.size<=12 by omega);clear wK e0 hs h01;go_enter Tryz.func118,Tryz.ntmps118
 go_upto_region 1 with fail
 go_cut [25] (fun v wx=>v=.bool false/\b7 (w=wx))
 case first =>
  by_cases h5:1<t.size
  ·have hnf:=hne h5;clear hne;go_wp2_with fail;go_meet;exact⟨by rw[decide_eq_false e7],rfl⟩
  ·clear hne;go_wp2_with fail;go_meet;exact⟨by rw[decide_eq_false e7],rfl⟩
 obtain⟨rfl,hw⟩:=hcut;obtain rfl:=hw.out;clear hw hne HQ;go_wp2_with fail
 go_loopg [5,6] t.size (fun gk nn ii wr=>∃(k:Nat),b7 (gk+k=t.size)/\nn=.int .i64 (vM (l.take k):Int)/\ii=.int .i64 (k:Int)/\b7 ((l.take k).all bV=true)/\b7 (w=wr))
 case atStart=>exact⟨0,ae rfl,rfl,rfl,ae rfl,ae rfl⟩
 case round =>
  obtain⟨g1,O⟩:=b9 gk;subst O;obtain⟨wr,K⟩:=b9 wr;subst K;obtain⟨k,G,rfl,rfl,HA,U⟩:=hrel;obtain rfl:=U.o;obtain⟨v,hv⟩:=b9 (vM (l.take k));have HV:=ae hv;rw[<-hv];clear hv;have B0:=ae (show v<1000000000000 by rw[HV.o];exact ot (m:=t.size) HA.o (j1 G.o) HB.o);by_cases hk:k<t.size
  ·obtain⟨c,hc⟩:=b9 (l[k]?.getD 0);have hkc:∀h:k<t.size,t[k]=c:=fun h=>by rw[J.o k h,hc]
   have e1:l[k]?=some c:=by rw[hc,List.getElem?_eq_getElem (by rw[<-HS.o];exact hk)];rfl
   have HE:=ae e1;clear hc e1;by_cases hd:bV c=true
   ·have xZ:=ae (es HE.o);unfold bV at hd;rw[decide_eq_true_eq]at hd;obtain⟨d,E⟩:∃d,c.toNat=d+48:=⟨c.toNat-48,by omega⟩;have Q:d<=9:=by omega
    have xK:=B0.o;have FV:IntKind.u8.wrap (((d+48:Nat):Int)-48)=(d:Int):=by rw[IntKind.wrap_u8];omega
    have hci:(c.toNat:Int)=((d+48:Nat):Int):=by rw[E]
    have Q0:=ae (show vM (l.take (k+1))=10*v+d by rw[xZ.o,fS,<-HV.o,E];omega);have I:=ae (show(l.take (k+1)).all bV=true by rw[xZ.o,List.all_append,HA.o];simp[bV,E,Q]);go_wp2_with fail
    go_roundg (g1-1)
    case measure=>have:=G.o;omega
    case rel=>exact⟨k+1,ae (j1 G.o),by rw[Q0.o];go_num,by go_num,I,ae rfl⟩
   ·have HR:=ae (uw (m:=m) HE.o (by simpa using hd));unfold bV at hd;rw[decide_eq_true_eq]at hd
    rcases Nat.lt_or_ge c.toNat 48 with h6|h6
    ·go_wp2_with fail;go_ret;exact⟨aD HR.o.symm,rfl⟩
    ·have h7:57<c.toNat:=by omega
     go_wp2_with fail;go_ret;exact⟨aD HR.o.symm,rfl⟩
  ·have Dl:k=t.size:=by have:=G.o;omega
   have HR:=ae (show aq l m=(v:Int)by
    have e:l.length=k:=by rw[Dl,HS.o]
    rw[HV.o,<-e]
    exact uv (by rw[<-HS.o];omega) (by rw[<-HS.o];omega) HC.o (by rw[e];exact HA.o))
   go_wp2_with fail;go_ret;exact⟨aD HR.o.symm,rfl⟩
theorem tj(l:List UInt8):Lib.trimPrefix l [45]=if l[0]?=some 45 then l.drop 1 else l:=by
 cases l with
 | nil=>rfl
 | cons c r =>
   by_cases hc:c=45
   ·subst hc;rfl
   ·rw[if_neg (by simpa using hc)];simp[Lib.trimPrefix,Lib.hasPrefix,hc,Ne.symm hc]
theorem ov(l:List UInt8):Calls Tryz.prog 116 #[.string (bs l)] w fun e w'=>e=.returned (.tuple #[.int .i64 (if 0<=aq l 6 then aq l 6 else 0),.bool (decide (0<=aq l 6))])/\w'=w:=by
 have HD:=ae (gW (w:=w) l 6 e7);obtain⟨v,hv⟩:=b9 (aq l 6);rw[<-hv]at HD;rw[<-hv];by_cases h0:0<=v
 ·rw[if_pos h0,decide_eq_true h0];have E:max v 0=v:=by omega
  clear hv;go_enter Tryz.func116,Tryz.ntmps116
  go_wp2_with fail;refine HD.o.mono ?_;rintro e w1 ⟨rfl,rfl⟩;go_wp2_with fail
  go_ret2
  exact⟨rfl,rfl⟩
 ·rw[if_neg h0,decide_eq_false h0];have E:max v 0=0:=by omega
  clear hv;go_enter Tryz.func116,Tryz.ntmps116
  go_wp2_with fail;refine HD.o.mono ?_;rintro e w1 ⟨rfl,rfl⟩;go_wp2_with fail
  go_ret2
  refine⟨?_,rfl⟩
  show Ending.returned (.tuple #[.int .i64 0,.bool (decide (0<=v))])=_;rw[decide_eq_false e7]
theorem I9(l:List UInt8)(hm:m<=12):-1<=aq l m/\aq l m<1000000000000:=by
 unfold aq
 split
 ·next h =>
  have h2:=rO l h.2.2;have h3:10^l.length<=10^12:=Nat.pow_le_pow_right (by decide) e7;omega
 ·omega
theorem sK(l:List UInt8):Calls Tryz.prog 60 #[.string (bs l)] w fun e w'=>e=.returned (.tuple #[.int .i64 ((dw l).getD 0),.bool (dw l).isSome])/\w'=w:=by
 have HT:=Any.strings_TrimPrefix Jw (bs l) ⟨#[45]⟩ w;have e:Lib.trimPrefix (bs l).data.toList (⟨#[45]⟩:ByteArray).data.toList=if l[0]?=some 45 then l.drop 1 else l:=tj l
 rw[e]at HT;clear e;by_cases E:l[0]?=some 45
 ·rw[if_pos E]at HT;have HD:=ae (gW (w:=w) (l.drop 1) 12 e7);have HR:=ae (show dw l=if 1<=aq (l.drop 1) 12 then some (-(aq (l.drop 1) 12)) else none by unfold dw;rw[if_pos E]);obtain⟨v,hv⟩:=b9 (aq (l.drop 1) 12);rw[<-hv]at HD HR;have hne:((bs (l.drop 1)).toList == (bs l).toList)=false:=by
   rw[bL,bL,beq_eq_false_iff_ne];intro e;have:=congrArg List.length e;rw[List.length_drop]at this;have h2:=(List.getElem?_eq_some_iff.1 E).1;omega
  have hb:=I9 (l.drop 1) (m:=12) e7;rw[<-hv]at hb;have I:=ae (show wrap64 (-v)=-v by unfold wrap64;omega);obtain⟨t1,G⟩:=b9 (bs (l.drop 1));obtain⟨t,ht⟩:=b9 (bs l);have zO:=ae (show Calls Tryz.prog 117 #[.string t,.string ⟨#[45]⟩] w (fun e w'=>e=.returned (.string t1)/\w'=w)by rw[ht,G];exact HT);clear HT;rw[<-G]at HD hne;rw[<-ht]at hne;rw[<-ht];clear ht G hv E hb;by_cases h1:1<=v
  ·rw[if_pos h1]at HR;rw[HR.o];go_enter Tryz.func60,Tryz.ntmps60
   go_wp2_with fail;refine zO.o.mono ?_;rintro e w1 ⟨rfl,rfl⟩;go_wp2_with fail;refine HD.o.mono ?_;rintro e w1 ⟨rfl,rfl⟩;go_wp2_with fail
   go_ret2
   refine⟨?_,rfl⟩
   show Ending.returned (.tuple #[.int .i64 (wrap64 (-v)),.bool true])=_;rw[I.o]
   rfl
  ·rw[if_neg h1]at HR;rw[HR.o];go_enter Tryz.func60,Tryz.ntmps60
   go_wp2_with fail;refine zO.o.mono ?_;rintro e w1 ⟨rfl,rfl⟩;go_wp2_with fail;refine HD.o.mono ?_;rintro e w1 ⟨rfl,rfl⟩;go_wp2_with fail
   all_goals
    go_ret2
    first|exact⟨rfl,rfl⟩|exact⟨by rw[show v=0 by omega];rfl,rfl⟩
 ·rw[if_neg E]at HT;have HD:=ae (gW (w:=w) l 12 e7);have HR:=ae (show dw l=if 0<=aq l 12 then some (aq l 12) else none by unfold dw;rw[if_neg E]);obtain⟨v,hv⟩:=b9 (aq l 12);rw[<-hv]at HD HR;obtain⟨t,ht⟩:=b9 (bs l);have zO:=ae (show Calls Tryz.prog 117 #[.string t,.string ⟨#[45]⟩] w (fun e w'=>e=.returned (.string t)/\w'=w)by rw[ht];exact HT);clear HT;rw[<-ht]at HD;rw[<-ht];clear ht hv E;by_cases h1:0<=v
  ·rw[if_pos h1]at HR;rw[HR.o];go_enter Tryz.func60,Tryz.ntmps60
   go_wp2_with fail;refine zO.o.mono ?_;rintro e w1 ⟨rfl,rfl⟩;go_wp2_with fail;refine HD.o.mono ?_;rintro e w1 ⟨rfl,rfl⟩;go_wp2_with fail
   all_goals
    go_ret2
    first|exact⟨rfl,rfl⟩|exact⟨by rw[show v=0 by omega];rfl,rfl⟩
  ·rw[if_neg h1]at HR;rw[HR.o];go_enter Tryz.func60,Tryz.ntmps60
   go_wp2_with fail;refine zO.o.mono ?_;rintro e w1 ⟨rfl,rfl⟩;go_wp2_with fail;refine HD.o.mono ?_;rintro e w1 ⟨rfl,rfl⟩;go_wp2_with fail
   go_ret2
   exact⟨rfl,rfl⟩
theorem qF(l:List UInt8):Lib.hasPrefix l [112,108,97,121,101,114,115,32]=decide (l.take 8=DX++[32]):=by
 unfold Lib.hasPrefix;rw[Bool.eq_iff_iff,List.isPrefixOf_iff_prefix,decide_eq_true_eq,List.prefix_iff_eq_take];exact eq_comm
theorem ox(l:List UInt8):Calls Tryz.prog 58 #[.string (bs l)] w fun e w'=>(∃n:Int,e=.returned (.tuple #[.int .i64 n,.bool (cQ l).isSome])/\∀k,cQ l=some k->n=k)/\w'=w:=by
 have HT:=Any.strings_CutPrefix ME (bs l) ⟨#[112,108,97,121,101,114,115,32]⟩ w;have e1:Lib.hasPrefix (bs l).data.toList (⟨#[112,108,97,121,101,114,115,32]⟩:ByteArray).data.toList=decide (l.take 8=DX++[32]):=qF l;have e2:Lib.trimPrefix (bs l).data.toList (⟨#[112,108,97,121,101,114,115,32]⟩:ByteArray).data.toList=if decide (l.take 8=DX++[32])=true then l.drop 8 else l:=by
  unfold Lib.trimPrefix;rw[e1];rfl
 rw[e1,e2]at HT;clear e1 e2;obtain⟨dl,E⟩:=b9 (if decide (l.take 8=DX++[32])=true then l.drop 8 else l)
 obtain⟨b,hb⟩:=b9 (decide (l.take 8=DX++[32]));have zO:=ae (show Calls Tryz.prog 115 #[.string (bs l),.string ⟨#[112,108,97,121,101,114,115,32]⟩] w (fun e w'=>e=.returned (.tuple #[.string (bs dl),.bool b])/\w'=w)by rw[E,hb];exact HT);clear HT;have HP:=ae (ov (w:=w) dl)
 have HF:=ae (show cQ l=if b=true then(if 0<=aq dl 6 then(if 1<=aq dl 6/\aq dl 6<=5 then some (aq dl 6) else none) else none) else none by
  unfold cQ;by_cases h:l.take 8=DX++[32]
  ·rw[hb,E];simp[h]
  ·rw[hb,E];simp[h])
 obtain⟨v,hv⟩:=b9 (aq dl 6);rw[<-hv]at HP HF;obtain⟨R,G⟩:=b9 (cQ l);rw[<-G]at HF;rw[<-G];clear G hv hb E;cases b with
 | false =>
   obtain rfl:=(show R=none from HF.o);go_enter Tryz.func58,Tryz.ntmps58
   go_wp2_with fail;refine zO.o.mono ?_;rintro e w1 ⟨rfl,rfl⟩;go_wp2_with fail;refine HP.o.mono ?_;rintro e w1 ⟨rfl,rfl⟩;go_wp2_with fail
   all_goals
    go_ret2
    first|exact⟨⟨_,rfl,fun k h=>by cases h⟩,rfl⟩|exact⟨⟨_,rfl⟩,rfl⟩
 | true =>
   by_cases h0:0<=v
   ·rw[if_pos h0,decide_eq_true h0]at HP;by_cases h1:1<=v/\v<=5
    ·obtain rfl:=(show R=some v by rw[HF.o,if_pos rfl,if_pos h0,if_pos h1]);obtain⟨h2,h3⟩:=h1;go_enter Tryz.func58,Tryz.ntmps58
     go_wp2_with fail;refine zO.o.mono ?_;rintro e w1 ⟨rfl,rfl⟩;go_wp2_with fail;refine HP.o.mono ?_;rintro e w1 ⟨rfl,rfl⟩;go_wp2_with fail;refine(aJ _ _ _ _).mono ?_;rintro e w2 ⟨rfl,rfl⟩;have wq:r' v 1 5=true:=by unfold r';simp;omega
     go_wp2_with fail
     go_ret2
     exact⟨⟨_,rfl,fun k h=>by cases h;rfl⟩,rfl⟩
    ·obtain rfl:=(show R=none by rw[HF.o,if_pos rfl,if_pos h0,if_neg h1]);go_enter Tryz.func58,Tryz.ntmps58
     go_wp2_with fail;refine zO.o.mono ?_;rintro e w1 ⟨rfl,rfl⟩;go_wp2_with fail;refine HP.o.mono ?_;rintro e w1 ⟨rfl,rfl⟩;go_wp2_with fail;refine(aJ _ _ _ _).mono ?_;rintro e w2 ⟨rfl,rfl⟩;have wq:r' v 1 5=false:=by unfold r';rw[Bool.eq_false_iff];intro h;simp at h;omega
     go_wp2_with fail
     go_ret2
     first|exact⟨⟨_,rfl,fun k h=>by cases h⟩,rfl⟩|exact⟨⟨_,rfl⟩,rfl⟩
   ·rw[if_neg h0,decide_eq_false h0]at HP;obtain rfl:=(show R=none by rw[HF.o,if_pos rfl,if_neg h0]);go_enter Tryz.func58,Tryz.ntmps58
    go_wp2_with fail;refine zO.o.mono ?_;rintro e w1 ⟨rfl,rfl⟩;go_wp2_with fail;refine HP.o.mono ?_;rintro e w1 ⟨rfl,rfl⟩;go_wp2_with fail
    go_ret2
    first|exact⟨⟨_,rfl,fun k h=>by cases h⟩,rfl⟩|exact⟨⟨_,rfl⟩,rfl⟩
theorem nY{l:j4}{k:Nat}(h:k<l.length):(l.take k).map wO++[wO (l[k]?.getD (0,0))]=(l.take (k+1)).map wO:=by
 rw[List.getElem?_eq_getElem h,Option.getD_some,List.take_succ_eq_append_getElem h,List.map_append]
 rfl
theorem iw {w: World}{a: Option Addr}{n cap: Nat}{l: List (Int × Int)}(h : Rats w a n cap l)(hn : n <= 100000)(ht : Lib.TabIs Tryz.prog w "internal/strconv.uint64pow10" .u64 Lib.pow10Tab) :
 Calls Tryz.prog 27 #[.slice a n cap] w fun e w'=>e=.returned (.string (bs (AK l)))/\Ext w w':=by
 have HT:=ae ht;have HL:=ae h.hlen;have Td:=h.l8;have D2:=h.o0;have HS:=ae h;have HO:=ae (uT.wJ vI 9 w w.heap.size _ rfl (Nat.le_refl _));have HV:=ae (fE (l:=l));clear h ht;go_enter Tryz.func27,Tryz.ntmps27
 go_wp2_with fail
 go_loopg [3,9] n (fun gk tt kk wr=>∃(k m cp:Nat) (b:j6),b7 (gk+k=n)/\tt=.slice b m cp/\kk=.int .i64 (k:Int)/\b7 (uT vI 9 wr w.heap.size (.slice b m cp) ((l.take k).map wO))/\b7 (Ext w wr))
 case atStart=>exact⟨0,0,0,_,ae e7,rfl,rfl,HO,ae (Ext.alloc _ _)⟩
 case round =>
  obtain⟨g1,o6⟩:=b9 gk;subst o6;obtain⟨wr,wR⟩:=b9 wr;subst wR;obtain⟨k,m,cp,b,HK,rfl,rfl,HB,HX⟩:=hrel;have Tn:(0:Int)<=(k:Int):=by omega
  by_cases hlt:k<n
  ·have Aq:(k:Int)<(n:Int):=by omega
   obtain⟨lb,lo,x,y,rfl,xQ,wK,xB⟩:=(HS.o.ext HX.o).at hlt;have HJ:=ae (nY (l:=l) (k:=k) (by rw[HL.o];exact hlt));rw[xQ]at HJ;have HF:=ae (fun(w':World) (hx:Ext w w')=>qI (w:=w') x y (eS HT.o hx));have xX:=ae (show((l.take k).map wO).length<=100000 by rw[List.length_map,List.length_take];omega);obtain⟨tr,SN⟩:=b9 (wO (x,y));rw[<-SN]at HJ HF;obtain⟨W1,D3⟩:=b9 (wr.alloc (.cells #[.int .i64 x,.int .i64 y] 62));have X1:=ae (show Ext wr W1 by rw[D3];exact Ext.alloc _ _);have BU:W1.cell? ⟨wr.heap.size,0,none⟩=some (.int .i64 x):=by rw[D3];simp
   have yx:W1.cell? ⟨wr.heap.size,1,none⟩=some (.int .i64 y):=by rw[D3];simp
   clear xQ SN;go_upto_region 5 with fail;rw[<-D3];clear D3;go_wp2_with fail;refine(HF.o _ (HX.o.trans X1.o)).mono ?_;rintro e w2 ⟨rfl,hx⟩;have X2:=ae ((HX.o.trans X1.o).trans hx);have yN:=ae ((HB.o.ext X1.o).ext hx);clear hx BU yx wK xB;have zP:=ae (yM.lit vI 9 w2 [tr] 1 rfl #[.string (bs tr)] rfl w2.heap.size rfl e7);go_wp2_with (first|(at_builtin;refine en vI Tryz.zt rfl Tryz.underlying53 (by decide) rfl _ _ rfl w.heap.size (.slice b m cp) ((l.take k).map wO) rfl (yN.o.ext (Ext.alloc _ _)) _ 1 1 [tr] rfl zP.o (j1 xX.o) (by have:=X2.o.size;simp;omega) ?_;intro v6 w6 ho hg l7;obtain⟨a6,n6,c6,rfl,Eh⟩:=ho.var;rw[HJ.o]at ho;have yT:=ae ho;have BA:=ae (ak (X2.o.trans (Ext.alloc _ _)) hg (fun j hj=>(yN.o.lt j hj).1));clear ho hg l7))
   go_roundg (g1-1)
   case measure=>have:=HK.o;omega
   case rel=>exact⟨k+1,n6,c6,a6,ae (j1 HK.o),rfl,by go_num,yT,BA⟩
  ·have vZ:k=n:=by have:=HK.o;omega
   have HE:=ae (show(l.take k).map wO=l.map wO by rw[List.take_of_length_le (by rw[HL.o];omega)]);have Aq:¬(k:Int)<(n:Int):=by omega
   clear vZ;have EI:=ae (show uT vI 9 wr w.heap.size (.slice b m cp) (l.map wO)by rw[<-HE.o];exact HB.o);have HJ:=ae (Px EI.o [32] (by have:=EI.o.A2.hlen;rw[List.length_map,HL.o]at this;omega) (by have:=HV.o;unfold AK at this;rw[HL.o]at this;omega));go_wp2_with fail;refine HJ.o.mono ?_;rintro e w2 ⟨rfl,hx⟩;have X2:=ae (HX.o.trans hx);clear hx;go_wp2_with fail;go_ret;exact⟨rfl,X2.o⟩
theorem iB{a:j6}{n cap:Nat}{l:j4}(h:Rats w a n cap l)(hn:n<=100000):
 Calls Tryz.prog 20 #[.slice a n cap] w fun e w'=>e=.returned (.string (bs (AK l)))/\Ext w w':=by
 have HL:=ae h.hlen;have Td:=h.l8;have D2:=h.o0;have HS:=ae h;have HO:=ae (uT.wJ vI 9 w w.heap.size _ rfl (Nat.le_refl _));have HV:=ae (fE (l:=l));clear h;go_enter Tryz.func20,Tryz.ntmps20
 go_wp2_with fail
 go_loopg [3,4] n (fun gk tt kk wr=>∃(k m E:Nat) (b:j6),b7 (gk+k=n)/\tt=.slice b m E/\kk=.int .i64 (k:Int)/\b7 (uT vI 9 wr w.heap.size (.slice b m E) ((l.take k).map wO))/\b7 (Ext w wr))
 case atStart=>exact⟨0,0,0,_,ae e7,rfl,rfl,HO,ae (Ext.alloc _ _)⟩
 case round =>
  obtain⟨g1,Z⟩:=b9 gk;subst Z;obtain⟨wr,U⟩:=b9 wr;subst U;obtain⟨k,m,E,b,I,rfl,rfl,HB,HX⟩:=hrel;have Tn:(0:Int)<=(k:Int):=by omega
  by_cases hlt:k<n
  ·have Aq:(k:Int)<(n:Int):=by omega
   obtain⟨lb,lo,x,y,rfl,J,wK,xB⟩:=(HS.o.ext HX.o).at hlt;have HJ:=ae (nY (l:=l) (k:=k) (by rw[HL.o];exact hlt));rw[J]at HJ;have HF:=ae (fun(w':World)=>qS (w:=w') x y);have Q:=ae (show((l.take k).map wO).length<=100000 by rw[List.length_map,List.length_take];omega);obtain⟨G,K⟩:=b9 (wO (x,y));rw[<-K]at HJ HF;clear J K;go_wp2_with fail;refine(HF.o _).mono ?_;rintro e w2 ⟨rfl,hx⟩;have X2:=ae (HX.o.trans hx);have yN:=ae (HB.o.ext hx);clear hx wK xB;have zP:=ae (yM.lit vI 9 w2 [G] 1 rfl #[.string (bs G)] rfl w2.heap.size rfl e7);go_wp2_with (first|(at_builtin;refine en vI Tryz.zt rfl Tryz.underlying53 (by decide) rfl _ _ rfl w.heap.size (.slice b m E) ((l.take k).map wO) rfl (yN.o.ext (Ext.alloc _ _)) _ 1 1 [G] rfl zP.o (j1 Q.o) (by have:=X2.o.size;simp;omega) ?_;intro v6 w6 ho hg l7;obtain⟨a6,n6,c6,rfl,Eh⟩:=ho.var;rw[HJ.o]at ho;have O:=ae ho;have BA:=ae (ak (X2.o.trans (Ext.alloc _ _)) hg (fun j hj=>(yN.o.lt j hj).1));clear ho hg l7))
   go_roundg (g1-1)
   case measure=>have:=I.o;omega
   case rel=>exact⟨k+1,n6,c6,a6,ae (j1 I.o),rfl,by go_num,O,BA⟩
  ·have W:k=n:=by have:=I.o;omega
   have HE:=ae (show(l.take k).map wO=l.map wO by rw[List.take_of_length_le (by rw[HL.o];omega)]);have Aq:¬(k:Int)<(n:Int):=by omega
   clear W;have EI:=ae (show uT vI 9 wr w.heap.size (.slice b m E) (l.map wO)by rw[<-HE.o];exact HB.o);have HJ:=ae (Pq EI.o [32] (by have:=EI.o.A2.hlen;rw[List.length_map,HL.o]at this;omega) (by have:=HV.o;unfold AK at this;rw[HL.o]at this;simp only[List.length_cons,List.length_nil];omega));go_wp2_with fail;refine HJ.o.mono ?_;rintro e w2 ⟨rfl,hx⟩;have X2:=ae (HX.o.trans hx);clear hx;go_wp2_with fail;go_ret;exact⟨rfl,X2.o⟩
theorem rU{a:j6}{n cap:Nat}{l:List (List UInt8)}(h:yM vI w a n cap l)(hb:n<=1099511627776):
 Calls Tryz.prog 68 #[.slice a n cap] w fun e w'=>∃v,e=.returned v/\uT vI 9 w' w.heap.size v l/\Ext w w':=by
 have heq:∀w':World,(binOp .eql 53 (.slice a n cap) (.slice none 0 0)).run Tryz.prog w'=.ok (.bool a.isNone) w':=fun w'=>Lib.run_eql_slice_nil w' _ _ a n cap 0 0 Tryz.underlying53
 have HL:=ae h.hlen;cases a with
 | none =>
   have hl:l=[]:=by
    have:¬0<n:=fun hn=>by obtain⟨b,off,e,_⟩:=h.cell 0 hn;cases e
    exact List.eq_nil_of_length_eq_zero (j1 HL.o)
   simp only[Option.isNone_none]at heq;go_enter Tryz.func68,Tryz.ntmps68
   go_wp2
   go_ret;exact⟨_,rfl,by rw[hl];exact uT.nil _ _ w _,Ext.refl _⟩
 | some ad =>
   simp only[Option.isNone_some]at heq;have HI:=ae (h.ext (Ext.alloc w (.cells #[] 9)));have HO:=ae (uT.wJ vI 9 w w.heap.size _ rfl (Nat.le_refl _));clear h;go_enter Tryz.func68,Tryz.ntmps68
   go_wp2_with (first|(at_builtin;refine en vI Tryz.zt rfl Tryz.underlying53 (by decide) rfl _ _ rfl w.heap.size _ _ rfl HO.o _ n _ l rfl HI.o (by simpa using hb) e8 ?_;intro v' w1 ho hg l7));go_ret;exact⟨_,rfl,ho,ak (Ext.alloc _ _) hg (fun k hk=>Nat.le_of_eq (Option.some.inj (show some w.heap.size=some k from hk)))⟩
def pC:List (List UInt8):=[[98,97,100],[112,111,105,110,116],[101,109,112,116,121],[108,105,109,105,116]]
theorem oG(c:Nat)(hc:c<4):pC[c]?=some (fG (c:Int)):=by
 rcases c with _|_|_|_|c
 all_goals first|rfl|omega
theorem sI(c:Nat)(hc:c<4):Calls Tryz.prog 25 #[.int .i64 (c:Int)] w fun e w'=>e=.returned (.string (bs (fG (c:Int))))/\Ext w w':=by
 have zP:=ae (yM.lit vI 9 w pC 4 rfl #[.string ⟨#[98,97,100]⟩,.string ⟨#[112,111,105,110,116]⟩,.string ⟨#[101,109,112,116,121]⟩,.string ⟨#[108,105,109,105,116]⟩] rfl w.heap.size rfl e7);have GU:=ae (show r' (c:Int) 0 3=true by unfold r';simp;omega);have Q:=ae (oG c hc);have zA:=ae (rU zP.o e7);have wK:(0:Int)<=(c:Int):=by omega
 have TL:(c:Int)<4:=by omega
 obtain⟨O,I⟩:=b9 (w.alloc (.cells #[.string ⟨#[98,97,100]⟩,.string ⟨#[112,111,105,110,116]⟩,.string ⟨#[101,109,112,116,121]⟩,.string ⟨#[108,105,109,105,116]⟩] 9));have X1:=ae (show Ext w O by rw[I];exact Ext.alloc _ _);rw[<-I]at zA;go_enter Tryz.func25,Tryz.ntmps25
 go_upto_region 2 with fail;rw[<-I];clear I;go_wp2_with fail;refine(aJ _ _ _ _).mono ?_;rintro e w2 ⟨rfl,rfl⟩;have wq:=GU.o;go_wp2_with fail;refine zA.o.mono ?_;rintro e w2 ⟨v,rfl,G,hx⟩;have X2:=ae (X1.o.trans hx);obtain⟨a2,K,c2,rfl,J⟩:=G.var;obtain rfl:K=4:=J.o.symm;obtain⟨lb,rfl,_⟩:=G.block (k:=0) e7;have E:=dD G.A2 Q.o;rw[Nat.zero_add]at E;clear G hx J;go_wp2_with fail;go_ret;exact⟨rfl,X2.o⟩
theorem sY(c:Nat)(hc:c<4):Calls Tryz.prog 18 #[.int .i64 (c:Int)] w fun e w'=>e=.returned (.string (bs (fG (c:Int))))/\Ext w w':=by
 have zP:=ae (yM.lit vI 9 w pC 4 rfl #[.string ⟨#[98,97,100]⟩,.string ⟨#[112,111,105,110,116]⟩,.string ⟨#[101,109,112,116,121]⟩,.string ⟨#[108,105,109,105,116]⟩] rfl w.heap.size rfl e7);have GU:=ae (show r' (c:Int) 0 3=true by unfold r';simp;omega);have E:=dD zP.o (oG c hc);rw[Nat.zero_add]at E;have wK:(0:Int)<=(c:Int):=by omega
 have TL:(c:Int)<4:=by omega
 go_enter Tryz.func18,Tryz.ntmps18
 go_wp2_with fail;refine(bm _ _ _ _).mono ?_;rintro e w2 ⟨rfl,rfl⟩;have wq:=GU.o;go_wp2_with fail;go_ret;exact⟨rfl,Ext.alloc _ _⟩
end Go.Proofs.YtdadoignenffgaaGreatDoor
