import Derived.Test.YtdadoignenffgaaGreatDoorEbAllG34
import Derived.Test.YtdadoignenffgaaGreatDoorEbAllG6
import Derived.Deep.DeepCutAuto
import Derived.Deep.Cut
import Derived.Deep.RegionHeld3
import Derived.Outline
import Derived.Laws.IdiomStrings
import Derived.Lib.AppendIntMem
import Derived.Lib.ItoaLen
import Derived.Test.YtdadoignenffgaaGreatDoorEbAllG28
import Derived.Test.YtdadoignenffgaaGreatDoorEbAllG7
set_option linter.unusedVariables false
set_option linter.unusedSimpArgs false
namespace Go.Proofs.YtdadoignenffgaaGreatDoor
open Go.RowKit
abbrev aab:=@Lib.itoa_length_le
variable{w:World}{n:Nat}
set_option maxHeartbeats 16000000
set_option maxRecDepth 100000
def bs(l:List UInt8):ByteArray:=⟨l.toArray⟩
theorem bT(l G:List UInt8):bs l++bs G=bs (l++G):=by
 unfold bs
 apply ByteArray.ext
 simp
theorem aW(l:List UInt8):(bs l).size=l.length:=by
 show(l.toArray).size=_;simp
def Dc(m:Nat):List UInt8:=if m=0 then [] else Lib.decDigits m
theorem kR{m:Nat}(h:m≠0):Dc m=Dc (m/10)++[UInt8.ofNat (48+m % 10)]:=by
 unfold Dc;rw[hD h,Lib.decDigits]
 split
 ·rename_i h1
  rw[hI e7,abq h1];rfl
 ·rw[hD e7]
theorem ec{w':World}{name:String}{k:IntKind}{zs:j7}(h:Lib.TabIs Tryz.prog w name k zs)(hx:Ext w w'):Lib.TabIs Tryz.prog w' name k zs:=Lib.tabBelow_of_tabIs h w' hx
theorem uB {w: World}(n : Nat)(hn : n <= 1000000)(ht : Lib.TabIs Tryz.prog w "internal/strconv.uint64pow10" .u64 Lib.pow10Tab) :
 Calls Tryz.prog 23 #[.int .i64 (n:Int)] w fun e w'=>e=.returned (.string (bs (Lib.decDigits n)))/\Ext w w':=by
 have HC:=ae (Any.strconv_Itoa sK (n:Int) e7 e7 w ht);go_enter Tryz.func23,Tryz.ntmps23
 go_wp2_with fail;refine HC.o.mono ?_;rintro e w' ⟨rfl,k,os,rfl⟩;have HX:=ae (show Ext w _ from Lib.below_grow _ w (ao _) k os);rw[abY];obtain⟨W,hW⟩:=b9 (Sort.grow (w.drewN k) os);rw[<-hW]at HX;rw[<-hW];clear hW;go_wp2_with fail;go_ret;exact⟨rfl,HX.o⟩
theorem bM{a b:ByteArray}(h:a=b):Ending.returned (.string a)=Ending.returned (.string b):=by rw[h]
theorem iQ(x:UInt8){y:Int}(hy:(x.toNat:Int)=y):(convert 26 9 (.slice (some ⟨w.heap.size,0,none⟩) 1 1)).run Tryz.prog (w.alloc (.cells #[.int .u8 y] 5))=.ok (.string (bs [x])) (w.alloc (.cells #[.int .u8 y] 5)):=by
 subst hy
 exact aci (P:=Tryz.prog) (w.alloc (.cells #[.int .u8 (x.toNat:Int)] 5)) 26 9 5 ⟨w.heap.size,0,none⟩ 1 [x] aan aa4 aaq (fun j hj=>by
  obtain rfl:j=0:=by simp at hj;omega
  simp[Addr.add])
theorem uK(n:Nat)(hn:n<=1000000):
 Calls Tryz.prog 16 #[.int .i64 (n:Int)] w fun e w'=>e=.returned (.string (bs (Lib.decDigits n)))/\Ext w w':=by
 by_cases h0:n=0
 ·subst h0;have HZ:=ae (show bs (Lib.decDigits 0)={ data:=#[48] } by rw[Lib.decDigits_one e7];rfl);go_enter acV,acN
  go_wp2_with fail;go_ret;exact⟨bM HZ.o.symm,Ext.refl _⟩
 have hz:((n:Int) == 0)=false:=by simp;omega
 have UE:¬(n:Int)<0:=by omega
 have hlen:(Lib.decDigits n).length<=21:=by
  have:=aab (n:Int) e7 e7
  rwa [abY]at this
 have HL:=ae hlen;have HD:=ae (show Dc n++[]=Lib.decDigits n by unfold Dc;rw[hD h0,ZR]);clear hlen;go_enter acV,acN
 go_wp2_with fail
 go_loopg [0,4] n (fun gk nn oo wr=>∃(m:Nat) (l:List UInt8),b7 (m<=gk)/\nn=.int .i64 (m:Int)/\oo=.string (bs l)/\b7 (Dc m++l=Lib.decDigits n)/\b7 (Ext w wr)/\b7 (m<=1000000))
 case atStart=>exact⟨n,[],ae (ao _),rfl,rfl,HD,ae (Ext.refl _),ae hn⟩
 case round =>
  obtain⟨g1,J⟩:=b9 gk;subst J;obtain⟨wr,O⟩:=b9 wr;subst O;obtain⟨m,l,HM,rfl,rfl,G,HX,I⟩:=hrel;by_cases F9:m=0
  ·subst F9;have HF:=ae (show bs l=bs (Lib.decDigits n)by rw[<-G.o];rfl);go_wp2_with fail;go_ret;exact⟨bM HF.o,HX.o⟩
  ·have Ot:((m:Int) != 0)=true:=by simp;omega
   have hm6:m<=1000000:=I.o;have K:Int.tmod (m:Int) 10=((m % 10:Nat):Int):=by rw[abe e7];omega
   have hdiv:Int.tdiv (m:Int) 10=((m/10:Nat):Int):=by rw[aaM e7];omega
   obtain⟨d,hd⟩:=b9 (m % 10);obtain⟨q,hq⟩:=b9 (m/10);rw[<-hd]at K;rw[<-hq]at hdiv;have Y5:d<10:=by omega
   obtain⟨x,hx⟩:=b9 (UInt8.ofNat (48+d));have HS:=ae (show Dc m=Dc q++[x]by rw[hx,hd,hq];exact kR F9);have hqm:q<m:=by omega
   have RA:l.length<=21:=by
    have h1:=HL.o;rw[<-G.o,pk]at h1;omega
   have RM:¬(d:Int)<0:=by omega
   have Kk:IntKind.u8.wrap (48+(d:Int))=48+(d:Int):=by rw[aby];omega
   have F1:IntKind.i64.wrap (48+(d:Int))=48+(d:Int):=by rw[cn];omega
   have hwq:IntKind.i64.wrap (q:Int)=(q:Int):=by rw[cn];omega
   have hcv:=iQ (w:=wr) x (y:=48+(d:Int)) (by rw[hx,aaT];omega);have Kv:¬9223372036854775807<(bs [x]).size+(bs l).size:=by rw[aW,aW];simp;omega
   have HA:=ae (bT [x] l);clear hd hq hx;clear F9;go_wp2_with fail;rw[HA.o]
   go_roundg (g1-1)
   case measure=>have:=HM.o;omega
   case rel=>exact⟨q,[x]++l,ae (j1 HM.o),rfl,rfl,ae (by rw[<-N7,<-HS.o];exact G.o),ae (HX.o.trans (Ext.alloc _ _)),ae e7⟩
theorem yM(s:Int)(w:World):Calls Tryz.prog 157 #[.int .i64 s] w fun e w'=>e=.returned (.bool (r9 s 0 31))/\w=w':=by
 go_enter Tryz.func157,Tryz.ntmps157
 go_wp2_with (first|(go_at_call 45;refine(aZ _ _ _ _).mono ?_;rintro e w' ⟨rfl,rfl⟩));go_ret;exact⟨rfl,rfl⟩
def Dn(s:Int)(m:Nat):List UInt8:=(FY s m).map fun k=>UInt8.ofNat (97+k)
theorem bW(l:List UInt8):(bs l).toList=l:=ByteArray.toList_mk l
theorem xU(s:Int)(m:Nat):Dn s (m+1)=Dn s m++(if bit s m then [UInt8.ofNat (97+m)] else []):=by
 unfold Dn FY;rw[TP,aa8,We];cases hb:bit s m
 ·simp[adj,hb]
 ·simp[adj,hb]
theorem sR(s:Int)(m:Nat):(Dn s m).length<=m:=by
 unfold Dn FY;rw[zo];exact SC (abG _ _) e8
def cI(s:Int):List UInt8:=if Dn s 5=[] then [45] else Dn s 5
theorem kO(s:Int):(cI s).length<=5:=by
 unfold cI
 split
 ·simp
 ·exact sR s 5
theorem it(s:Nat)(hs:s<32):
 Calls Tryz.prog 93 #[.int .i64 (s:Int)] w fun e w'=>e=.returned (.string (bs (cI (s:Int))))/\Ext w w':=by
 have zU:r9 (s:Int) 0 31=true:=by unfold r9;simp;omega
 have HG:=ae (fun w'=>yM (s:Int) w');rw[zU]at HG;clear zU;go_enter Tryz.func93,Tryz.ntmps93
 go_wp2_with fail;refine(HG.o _).mono ?_;rintro e w1 ⟨rfl,rfl⟩;go_wp2_with fail
 go_loopg [3,4] 5 (fun gk oo kk wr=>∃(k:Nat),b7 (gk+k=5)/\kk=.int .i64 (k:Int)/\oo=.string (bs (Dn (s:Int) k))/\b7 (Ext w wr))
 case atStart=>exact⟨0,ae rfl,rfl,rfl,ae (Ext.refl _)⟩
 case round =>
  obtain⟨g1,K⟩:=b9 gk;subst K;obtain⟨wr,U⟩:=b9 wr;subst U;obtain⟨k,I,rfl,rfl,HX⟩:=hrel;have AN:=ae (sR (s:Int) k);by_cases hlt:k<5
  ·have HP:=ae (cw (s:Int) (k:Int) wr e7);have HB:=ae (el (s:Int) k e7 e7);have HS:=ae (xU (s:Int) k);cases hb:bit (s:Int) k
   ·rw[HB.o,hb]at HP;rw[hb]at HS;clear hb;go_wp2_with fail;refine HP.o.mono ?_;rintro e w' ⟨rfl,rfl⟩;go_wp2_with fail
    go_roundg (g1-1)
    case measure=>have:=I.o;omega
    case rel=>exact⟨k+1,ae (j1 I.o),by go_num,by rw[HS.o];simp,HX⟩
   ·rw[HB.o,hb]at HP;rw[hb]at HS;clear hb;go_wp2_with fail;refine HP.o.mono ?_;rintro e w' ⟨rfl,rfl⟩;have O:k=0∨k=1∨k=2∨k=3∨k=4:=by omega
    obtain⟨J,G⟩:=b9 (bs (Dn (s:Int) k));have HT:=ae G;rw[<-G];clear G;have Kv:¬9223372036854775807<J.size+1:=by rw[HT.o,aW];have:=AN.o;omega
    rcases O with rfl|rfl|rfl|rfl|rfl
    all_goals
     go_wp2_with fail
     go_roundg (g1-1)
     case measure=>have:=I.o;omega
     case rel =>
      refine⟨_+1,ae (j1 I.o),rfl,?_,HX⟩;rw[HS.o,hI trivial,<-bT,<-HT.o]
      rfl
  ·have Q:k=5:=by have:=I.o;omega
   subst Q;obtain⟨J,G⟩:=b9 (bs (Dn (s:Int) 5));have HT:=ae G;rw[<-G];clear G;go_wp2_with fail
   ·rename_i h
    go_ret;refine⟨bM ?_,HX.o⟩;have h2:Dn (s:Int) 5=[]:=by rw[HT.o,bW]at h;exact adk.1 h
    unfold cI;rw[hI h2]
    rfl
   ·rename_i h
    go_ret;refine⟨bM ?_,HX.o⟩;have h2:Dn (s:Int) 5≠[]:=fun e=>by rw[HT.o,bW,e]at h;exact absurd h (by decide)
    unfold cI;rw[hD h2];exact HT.o
theorem is(s:Nat)(hs:s<32):
 Calls Tryz.prog 90 #[.int .i64 (s:Int)] w fun e w'=>e=.returned (.string (bs (cI (s:Int))))/\Ext w w':=by
 have zU:r9 (s:Int) 0 31=true:=by unfold r9;simp;omega
 have HM:=ae (uD s hs w);obtain⟨L,K⟩:=b9 (ES (s:Int) 5)
 have MA:=ae (show Dn (s:Int) 5=L.map (fun k=>UInt8.ofNat (97+k.toNat))by
  rw[K];unfold ES Dn;rw[abE];rfl)
 have AN:=ae (show L.length<=5 by rw[K];exact sX _ _)
 have AO:=ae (show∀i,i<L.length->∃k:Nat,L[i]?.getD 0=(k:Int)/\k<5 from fun i hi=>by
  rw[K]at hi⊢;obtain⟨k,h1,h2,_⟩:=Q' (s:Int) i hi
  exact⟨k,h1,h2⟩)
 rw[<-K]at HM;clear K;go_enter Tryz.func90,Tryz.ntmps90
 go_wp2_with (first|(go_at_call 61;refine(aq _ _ _ _).mono ?_;rw[zU];rintro e w' ⟨rfl,rfl⟩));refine HM.o.mono ?_;rintro e w1 ⟨v,rfl,ho,hx⟩;obtain⟨a1,G,c1,rfl,HN⟩:=ho.var;have HI:=ae ho.ints;have C6:G<=5:=by have:=HN.o;have:=AN.o;omega
 have yZ:=ae hx;clear ho hx;go_wp2_with fail
 go_loopg [3,12] G (fun gk oo kk wr=>∃(k:Nat),b7 (gk+k=G)/\kk=.int .i64 (k:Int)/\oo=.string (bs ((L.map (fun k=>UInt8.ofNat (97+k.toNat))).take k))/\b7 (Ext w1 wr))
 case atStart=>exact⟨0,ae e7,rfl,rfl,ae (Ext.refl _)⟩
 case round =>
  obtain⟨g1,o7⟩:=b9 gk;subst o7;obtain⟨wr,Aw⟩:=b9 wr;subst Aw;obtain⟨k,O,rfl,rfl,HX⟩:=hrel;by_cases hlt:k<G
  ·obtain⟨b,off,rfl,hc⟩:=(HI.o.ext HX.o).at hlt;obtain⟨j,hj,hj5⟩:=AO.o k (by rw[HN.o];exact hlt);rw[hj]at hc;have CX:(k:Int)<(G:Int):=by omega
   have Fu:(0:Int)<=(k:Int):=by omega
   obtain⟨x,hx⟩:=b9 (UInt8.ofNat (97+j));obtain⟨M,J⟩:=b9 (L.map (fun k=>UInt8.ofNat (97+k.toNat)))
   have ZS:=ae (show M.take (k+1)=M.take k++[x]by
    have Ci:k<M.length:=by rw[J,zo,HN.o];exact hlt
    rw[Kn Ci];have I:k<L.length:=by rw[HN.o];exact hlt
    have h1:L[k]=(j:Int):=by rw[bk I,l']at hj;exact hj
    simp only[J,abP,h1,hx,CI])
   have Kk:IntKind.u8.wrap (97+(j:Int))=97+(j:Int):=by rw[aby];omega
   have F1:IntKind.i64.wrap (97+(j:Int))=97+(j:Int):=by rw[cn];omega
   have hcv:=iQ (w:=wr) x (y:=97+(j:Int)) (by rw[hx,aaT];omega);have Kv:¬9223372036854775807<(bs (M.take k)).size+(bs [x]).size:=by
    rw[aW,aW];have:(M.take k).length<=k:=by rw[FX];omega
    simp;omega
   rw[<-J];have HA:=ae (bT (M.take k) [x]);have Ho:=ae J;clear hx hj J;go_wp2_with fail;rw[HA.o]
   go_roundg (g1-1)
   case measure=>have:=O.o;omega
   case rel=>exact⟨k+1,ae (j1 O.o),by go_num,by rw[<-Ho.o,ZS.o],ae (HX.o.trans (Ext.alloc _ _))⟩
  ·have U:G=k:=by have:=O.o;omega
   subst U;obtain⟨Z,Q⟩:=b9 (bs ((L.map (fun k=>UInt8.ofNat (97+k.toNat))).take G));have HT:=ae (show Z=bs (Dn (s:Int) 5)by rw[Q,MA.o,p4 (by rw[zo,HN.o];omega)]);rw[<-Q];clear Q;go_wp2_with fail
   ·rename_i h
    go_ret;refine⟨bM ?_,yZ.o.trans HX.o⟩;have h2:Dn (s:Int) 5=[]:=by rw[HT.o,bW]at h;exact adk.1 h
    unfold cI;rw[hI h2]
    rfl
   ·rename_i h
    go_ret;refine⟨bM ?_,yZ.o.trans HX.o⟩;have h2:Dn (s:Int) 5≠[]:=fun e=>by rw[HT.o,bW,e]at h;exact absurd h (by decide)
    unfold cI;rw[hD h2];exact HT.o
theorem gF {w: World}(n : Int)(h0 : -1000000000000000000 <= n)(h1 : n <= 1000000000000000000)(ht : Lib.TabIs Tryz.prog w "internal/strconv.uint64pow10" .u64 Lib.pow10Tab) :
 Calls Tryz.prog 23 #[.int .i64 n] w fun e w'=>e=.returned (.string (bs (Lib.itoa n)))/\Ext w w':=by
 have HC:=ae (Any.strconv_Itoa sK n e7 e7 w ht);go_enter Tryz.func23,Tryz.ntmps23
 go_wp2_with fail;refine HC.o.mono ?_;rintro e w' ⟨rfl,k,os,rfl⟩;have HX:=ae (show Ext w _ from Lib.below_grow _ w (ao _) k os);obtain⟨W,hW⟩:=b9 (Sort.grow (w.drewN k) os);rw[<-hW]at HX;rw[<-hW];clear hW;go_wp2_with fail;go_ret;exact⟨rfl,HX.o⟩
theorem qi(h:n<=1000000000000000000):(Lib.decDigits n).length<=21:=by
 have:=aab (n:Int) e7 e7
 rwa [abY]at this
theorem tE(n:Nat)(hn:n<=1000000000000000000):
 Calls Tryz.prog 16 #[.int .i64 (n:Int)] w fun e w'=>e=.returned (.string (bs (Lib.decDigits n)))/\Ext w w':=by
 by_cases h0:n=0
 ·subst h0;have HZ:=ae (show bs (Lib.decDigits 0)={ data:=#[48] } by rw[Lib.decDigits_one e7];rfl);go_enter acV,acN
  go_wp2_with fail;go_ret;exact⟨bM HZ.o.symm,Ext.refl _⟩
 have hz:((n:Int) == 0)=false:=by simp;omega
 have UE:¬(n:Int)<0:=by omega
 have HL:=ae (qi hn);have HD:=ae (show Dc n++[]=Lib.decDigits n by unfold Dc;rw[hD h0,ZR]);go_enter acV,acN
 go_wp2_with fail
 go_loopg [0,4] n (fun gk nn oo wr=>∃(m:Nat) (l:List UInt8),b7 (m<=gk)/\nn=.int .i64 (m:Int)/\oo=.string (bs l)/\b7 (Dc m++l=Lib.decDigits n)/\b7 (Ext w wr)/\b7 (m<=1000000000000000000))
 case atStart=>exact⟨n,[],ae (ao _),rfl,rfl,HD,ae (Ext.refl _),ae hn⟩
 case round =>
  obtain⟨g1,J⟩:=b9 gk;subst J;obtain⟨wr,O⟩:=b9 wr;subst O;obtain⟨m,l,HM,rfl,rfl,G,HX,I⟩:=hrel;by_cases F9:m=0
  ·subst F9;have HF:=ae (show bs l=bs (Lib.decDigits n)by rw[<-G.o];rfl);go_wp2_with fail;go_ret;exact⟨bM HF.o,HX.o⟩
  ·have Ot:((m:Int) != 0)=true:=by simp;omega
   have hm6:m<=1000000000000000000:=I.o;have K:Int.tmod (m:Int) 10=((m % 10:Nat):Int):=by rw[abe e7];omega
   have hdiv:Int.tdiv (m:Int) 10=((m/10:Nat):Int):=by rw[aaM e7];omega
   obtain⟨d,hd⟩:=b9 (m % 10);obtain⟨q,hq⟩:=b9 (m/10);rw[<-hd]at K;rw[<-hq]at hdiv;have Y5:d<10:=by omega
   obtain⟨x,hx⟩:=b9 (UInt8.ofNat (48+d));have HS:=ae (show Dc m=Dc q++[x]by rw[hx,hd,hq];exact kR F9);have hqm:q<m:=by omega
   have RA:l.length<=21:=by
    have h1:=HL.o;rw[<-G.o,pk]at h1;omega
   have RM:¬(d:Int)<0:=by omega
   have Kk:IntKind.u8.wrap (48+(d:Int))=48+(d:Int):=by rw[aby];omega
   have F1:IntKind.i64.wrap (48+(d:Int))=48+(d:Int):=by rw[cn];omega
   have hwq:IntKind.i64.wrap (q:Int)=(q:Int):=by rw[cn];omega
   have hcv:=iQ (w:=wr) x (y:=48+(d:Int)) (by rw[hx,aaT];omega);have Kv:¬9223372036854775807<(bs [x]).size+(bs l).size:=by rw[aW,aW];simp;omega
   have HA:=ae (bT [x] l);clear hd hq hx;clear F9;go_wp2_with fail;rw[HA.o]
   go_roundg (g1-1)
   case measure=>have:=HM.o;omega
   case rel=>exact⟨q,[x]++l,ae (j1 HM.o),rfl,rfl,ae (by rw[<-N7,<-HS.o];exact G.o),ae (HX.o.trans (Ext.alloc _ _)),ae e7⟩
theorem tD(n:Nat)(h1n:1<=n)(hn:n<=1000000000000000000):
 Calls Tryz.prog 16 #[.int .i64 (-(n:Int))] w fun e w'=>e=.returned (.string (bs (45::Lib.decDigits n)))/\Ext w w':=by
 have hz:(-(n:Int) == 0)=false:=by simp;omega
 have UE:-(n:Int)<0:=by omega
 have HL:=ae (qi hn);have HD:=ae (show Dc n++[]=Lib.decDigits n by unfold Dc;rw[hD e7,ZR]);go_enter acV,acN
 go_wp2_with fail
 go_loopg [0,4] n (fun gk nn oo wr=>∃(m:Nat) (l:List UInt8),b7 (m<=gk)/\nn=.int .i64 (-(m:Int))/\oo=.string (bs l)/\b7 (Dc m++l=Lib.decDigits n)/\b7 (Ext w wr)/\b7 (m<=1000000000000000000))
 case atStart=>exact⟨n,[],ae (ao _),rfl,rfl,HD,ae (Ext.refl _),ae hn⟩
 case round =>
  obtain⟨g1,K⟩:=b9 gk;subst K;obtain⟨wr,U⟩:=b9 wr;subst U;obtain⟨m,l,HM,rfl,rfl,G,HX,J⟩:=hrel;have RA:l.length<=21:=by
   have h1:=HL.o;rw[<-G.o,pk]at h1;omega
  by_cases F9:m=0
  ·subst F9;have hm00:(-((0:Nat):Int) != 0)=false:=by decide
   have HF:=ae (show(⟨#[45]⟩:ByteArray)++bs l=bs (45::Lib.decDigits n)by rw[<-G.o];exact bT [45] l);have O:¬9223372036854775807<(⟨#[45]⟩:ByteArray).size+(bs l).size:=by rw[aW];show¬9223372036854775807<1+l.length;omega
   go_wp2_with fail;go_ret;exact⟨bM HF.o,HX.o⟩
  ·have Ot:(-(m:Int) != 0)=true:=by simp;omega
   have hm6:m<=1000000000000000000:=J.o;have I:Int.tmod (-(m:Int)) 10=-((m % 10:Nat):Int):=by rw[Int.neg_tmod,abe e7];omega
   have hdiv:Int.tdiv (-(m:Int)) 10=-((m/10:Nat):Int):=by rw[aa6,aaM e7];omega
   obtain⟨d,hd⟩:=b9 (m % 10);obtain⟨q,hq⟩:=b9 (m/10);rw[<-hd]at I;rw[<-hq]at hdiv;have Y5:d<10:=by omega
   obtain⟨x,hx⟩:=b9 (UInt8.ofNat (48+d));have HS:=ae (show Dc m=Dc q++[x]by rw[hx,hd,hq];exact kR F9);have hqm:q<m:=by omega
   have Kk:IntKind.u8.wrap (48+(d:Int))=48+(d:Int):=by rw[aby];omega
   have F1:IntKind.i64.wrap (48+(d:Int))=48+(d:Int):=by rw[cn];omega
   have hwq:IntKind.i64.wrap (-(q:Int))=-(q:Int):=by rw[cn];omega
   have IB:=ae (show(x.toNat:Int)=48+(d:Int)by rw[hx,aaT];omega);have O:¬9223372036854775807<(bs [x]).size+(bs l).size:=by rw[aW,aW];simp;omega
   have HA:=ae (bT [x] l);clear hq hx F9;by_cases Q:d=0
   ·subst Q;have hw0:IntKind.i64.wrap (-((0:Nat):Int))=((0:Nat):Int):=by decide
    have RM:¬((0:Nat):Int)<0:=by omega
    have hm00:Int.tmod (-(m:Int)) 10=((0:Nat):Int):=by rw[I];rfl
    have hcv:=iQ (w:=wr) x (y:=48) (j1 IB.o);clear hd I;go_wp2_with fail;rw[HA.o]
    go_roundg (g1-1)
    case measure=>have:=HM.o;omega
    case rel=>exact⟨q,[x]++l,ae (j1 HM.o),rfl,rfl,ae (by rw[<-N7,<-HS.o];exact G.o),ae (HX.o.trans (Ext.alloc _ _)),ae e7⟩
   ·have RM:-(d:Int)<0:=by omega
    have hwd:IntKind.i64.wrap (-(d:Int))=-(d:Int):=by rw[cn];omega
    have Kj:IntKind.i64.wrap (0 - -(d:Int))=(d:Int):=by rw[cn];omega
    have hcv:=iQ (w:=wr) x (y:=48+(d:Int)) IB.o;clear hd;go_wp2_with fail;rw[HA.o]
    go_roundg (g1-1)
    case measure=>have:=HM.o;omega
    case rel=>exact⟨q,[x]++l,ae (j1 HM.o),rfl,rfl,ae (by rw[<-N7,<-HS.o];exact G.o),ae (HX.o.trans (Ext.alloc _ _)),ae e7⟩
theorem fA(n:Int)(h0:-1000000000000000000<=n)(h1:n<=1000000000000000000):
 Calls Tryz.prog 16 #[.int .i64 n] w fun e w'=>e=.returned (.string (bs (Lib.itoa n)))/\Ext w w':=by
 by_cases hn:n<0
 ·obtain⟨k,rfl⟩:∃k:Nat,n=-(k:Int):=⟨n.natAbs,by omega⟩;rw[Lib.itoa_neg k e7];exact tD k e7 e7
 ·obtain⟨k,rfl⟩:∃k:Nat,n=(k:Int):=⟨n.toNat,by omega⟩;rw[abY];exact tE k e7
theorem lM(h:n<=1000000):(Lib.decDigits n).length<=21:=by
 have:=aab (n:Int) e7 e7
 rwa [abY]at this
theorem np{n:Int}(h:-1000000<=n/\n<=1000000):(Lib.itoa n).length<=21:=aab n e7 e7
def iC(V:j7)(k:Nat):List UInt8:=if V[k]?.getD 0=0 then [] else cI (k:Int)++([32]++(Lib.itoa (V[k]?.getD 0)++[10]))
def cD(V:j7)(m:Nat):List UInt8:=(List.range m).flatMap (iC V)
theorem fh(V:j7)(m:Nat):cD V (m+1)=cD V m++iC V m:=by
 unfold cD;rw[TP,acP];simp
def eB(p:Nat):List UInt8:=[112,108,97,121,101,114,115,32]++(Lib.decDigits p++[10])
theorem gH{V:j7}(G:∀k:Nat,-1000000<=V[k]?.getD 0/\V[k]?.getD 0<=1000000):∀m,(cD V m).length<=40*m
 | 0=>by simp[cD]
 | m+1=>by
   rw[fh,pk];have h1:=gH G m;have h2:(iC V m).length<=40:=by
    unfold iC
    split
    ·simp
    ·have h3:=kO (m:Int);have h4:=np (G m);simp only[pk,OX,aap];omega
   omega
def cY(p:Nat)(V:j7):List UInt8:=if aL (p:Int) V=true then eB p++cD V V.length else []
theorem jg{p:Nat}{a:j6}{cap:Nat}{V:j7}(h:Ints w a n cap V)(Q:∀k:Nat,-1000000<=V[k]?.getD 0/\V[k]?.getD 0<=1000000):
 Calls Tryz.prog 34 #[pair (p:Int) a n cap] w fun e w'=>e=.returned (.string (bs (cY p V)))/\Ext w w':=by
 obtain⟨W,hW⟩:=b9 (w.alloc (.cells #[.int .i64 (p:Int),.slice a n cap] 32));have GV:Ext w W:=by rw[hW];exact Ext.alloc _ _
 have I4:=ae GV;have HI:=ae (h.ext GV);have l8:=h.l8;have l9:=h.l9;have HL:=ae h.hlen;have G0:=ae (show W.cell? ⟨w.heap.size,0,none⟩=some (.int .i64 (p:Int))by rw[hW];simp);have J:=ae (show W.cell? ⟨w.heap.size,1,none⟩=some (.slice a n cap)by rw[hW];simp);have HV:=ae Q;have A5:=ae (es (p:=(p:Int)) HI.o);cases zO:aL (p:Int) V
 ·rw[zO]at A5;have HF:=ae (show bs (cY p V)={ data:=#[] } by unfold cY;rw[zO];rfl);clear h GV Q zO;have g0:=G0.o;have g1:=J.o;go_enter Tryz.func34,Tryz.ntmps34
  go_upto_region 1 with fail;rw[<-hW];clear hW;go_wp2_with fail;refine A5.o.mono ?_;rintro e w1 ⟨rfl,hx⟩;have X1:=ae hx;clear hx;go_wp2_with fail;go_ret;exact⟨bM HF.o.symm,I4.o.trans X1.o⟩
 ·rw[zO]at A5;obtain⟨q,hq,C4,EX,hlen,N4,_⟩:=bQ zO;have PE:=ae N4;obtain rfl:p=q:=by omega
  have Ft:n<=32:=by rw[<-HL.o,hlen];exact(bP p EX).2
  have B1:1<=n:=by rw[<-HL.o,hlen];exact(bP p EX).1
  have HF:=ae (show cY p V=eB p++cD V n by unfold cY;rw[hI zO,HL.o]);have KL:=ae (gH (V:=V) Q);have HP:=ae (fun w'=>uK (w:=w') p e7);have Fa:=ae (lM (n:=p) e7);clear h GV Q zO hq hlen N4;have g0:=G0.o;have g1:=J.o;go_enter Tryz.func34,Tryz.ntmps34
  go_upto_region 1 with fail;rw[<-hW];clear hW;go_wp2_with fail;refine A5.o.mono ?_;rintro e w1 ⟨rfl,hx⟩;have X1:=ae hx;clear hx g0 g1;have g0:=X1.o.j9 G0.o;have g1:=X1.o.j9 J.o;go_wp2_with fail;refine(HP.o _).mono ?_;rintro e w2 ⟨rfl,hx⟩;have X2:=ae (X1.o.trans hx);clear hx g0 g1;have g1:=X2.o.j9 J.o;obtain⟨td,KX⟩:=b9 (bs (Lib.decDigits p));have WW:=ae KX;have Uk:td.size<=21:=by rw[KX,aW];exact Fa.o
  rw[<-KX];clear KX;go_wp2_with fail
  have AT:=ae (show({ data:=#[112,108,97,121,101,114,115,32] }:ByteArray)++td++{ data:=#[10] }=bs (eB p++cD V 1)by
   have h1:cD V 1=[]:=by rw[show(1:Nat)=0+1 from rfl,fh];unfold iC;rw[hI PE.o];rfl
   rw[h1,ZR,WW.o];unfold eB;rw[<-bT,<-bT,<-ByteArray.append_assoc]
   rfl)
  rw[AT.o];clear g1
  go_loopg [3,4] n (fun gk oo kk wr=>∃(k:Nat),b7 (gk+k=n+1)/\kk=.int .i64 (k:Int)/\oo=.string (bs (eB p++cD V k))/\b7 (Ext W wr)/\b7 (1<=k/\k<=n))
  case atStart=>exact⟨1,ae rfl,rfl,rfl,X2,ae ⟨ao _,B1⟩⟩
  case round =>
   obtain⟨g1,o7⟩:=b9 gk;subst o7;obtain⟨wr,Aw⟩:=b9 wr;subst Aw;obtain⟨k,HK,rfl,rfl,HX,HB⟩:=hrel;obtain⟨BR,zQ⟩:=HB.o;have q1:=HX.o.j9 J.o;by_cases hlt:k<n
   ·obtain⟨b,off,rfl,hc⟩:=(HI.o.ext HX.o).at hlt;have CX:(k:Int)<(n:Int):=by omega
    have Fu:(0:Int)<=(k:Int):=by omega
    obtain⟨v,hv⟩:∃v:Int,V[k]?.getD 0=v:=⟨_,rfl⟩;have hv6:-1000000<=v/\v<=1000000:=by rw[<-hv];exact HV.o k
    rw[hv]at hc;by_cases Lq:v=0
    ·subst Lq;have HS:=ae (show cD V (k+1)=cD V k by rw[fh];unfold iC;rw[hv,hI rfl,ZR]);clear hv;go_wp2_with fail
     go_roundg (g1-1)
     case measure=>have:=HK.o;omega
     case rel=>exact⟨k+1,ae (j1 HK.o),by go_num,by rw[HS.o],HX,ae e7⟩
    ·have HS:=ae (show cD V (k+1)=cD V k++(cI (k:Int)++([32]++(Lib.itoa v++[10])))by rw[fh];unfold iC;rw[hv,hD Lq]);have hvz:(v != 0)=true:=by simp[Lq]
     have JR:=ae (fun w'=>it (w:=w') k e7);have QF:=ae (fun w'=>fA (w:=w') v e7 e7);obtain⟨I,U⟩:=b9 (bs (cI (k:Int)));obtain⟨O,N8⟩:=b9 (bs (Lib.itoa v));obtain⟨G,Z⟩:=b9 (bs (eB p++cD V k));have hcs:I.size<=5:=by rw[U,aW];exact kO _
     have his:O.size<=21:=by rw[N8,aW];exact np hv6
     have hos:G.size<=2000:=by
      rw[Z,aW,pk];have h1:=KL.o k;have h2:=Fa.o;unfold eB;simp only[pk,OX,aap];omega
     have V6:=ae (show G++I++{ data:=#[32] }++O++{ data:=#[10] }=bs (eB p++cD V (k+1))by
      rw[Z,U,N8]
      show bs _++bs _++bs [32]++bs _++bs [10]=_;rw[bT,bT,bT,bT,HS.o]
      simp only[N7])
     have OD:¬9223372036854775807<G.size+I.size:=by omega
     have Mn:¬9223372036854775807<G.size+I.size+1:=by omega
     have hf3:¬9223372036854775807<G.size+I.size+1+O.size:=by omega
     have hf4:¬9223372036854775807<G.size+I.size+1+O.size+1:=by omega
     simp only[<-U]at JR;simp only[<-N8]at QF;rw[<-Z];clear hv U N8 Z;go_wp2_with fail;have k7:Ext wr wr.drew:=Ext.drew wr;have k8:=ae (fun(w':World) (h:Ext wr w')=>(⟨h.j9 q1,h.j9 hc⟩:w'.cell? ⟨w.heap.size,1,none⟩=some (.slice (some ⟨b,off,none⟩) n cap)/\w'.cell? ⟨b,off+k,none⟩=some (.int .i64 v)));refine rN (S:=(fun w'=>w'.cell? ⟨w.heap.size,1,none⟩=some (.slice (some ⟨b,off,none⟩) n cap)/\w'.cell? ⟨b,off+k,none⟩=some (.int .i64 v))) e9 ?_ (fun l7=>?_)
     ·exact k8.o _ k7
     refine tk 0 ?_;refine tk 1 ?_;refine tk 5 ?_;refine tk 6 ?_;refine tk 7 ?_;refine tk 8 ?_;refine tk 9 ?_;refine rd (i:=2) (h:=fun K hK=>?_);go_simp
     (go_at_call 93;refine(JR.o _).mono ?_;rintro e w3 ⟨rfl,zm⟩;have k7:=k7.trans zm)
     go_wp2_with fail;refine hK.out _ _ ?_ (fun l7=>?_)
     ·exact k8.o _ k7
     clear hK K
     try simp only[Act.put,sA,sB,sC]
     refine tk 3 ?_;refine tk 4 ?_;refine rd (i:=10) (h:=fun K hK=>?_);go_simp
     (go_at_call 16;refine(QF.o _).mono ?_;rintro e w3 ⟨rfl,zm⟩;have k7:=k7.trans zm)
     go_wp2_with fail;refine hK.out _ _ ?_ (fun l7=>?_)
     ·exact k8.o _ k7
     clear hK K
     try simp only[Act.put,sA,sB,sC]
     refine tk 11 ?_;refine tk 12 ?_;refine tk 13 ?_;refine Gh e9 ?_ _;have zt:=ae (HX.o.trans k7);clear k7 l7 hc q1;rw[V6.o];go_wp2_with fail
     go_roundg (g1-1)
     case measure=>have:=HK.o;omega
     case rel=>exact⟨k+1,ae (j1 HK.o),by go_num,rfl,zt,ae e7⟩
   ·have Jw:n=k:=by omega
    subst Jw;go_wp2_with fail;go_ret;exact⟨bM (by rw[HF.o]),I4.o.trans HX.o⟩
theorem lg {w: World}{p: Nat}{a: Option Addr}{n cap: Nat}{V: List Int}(h : Ints w a n cap V)(hV : ∀ k : Nat, -1000000 <= V[k]?.getD 0 /\ V[k]?.getD 0 <= 1000000)(ht : Lib.TabIs Tryz.prog w "internal/strconv.uint64pow10" .u64 Lib.pow10Tab) :
 Calls Tryz.prog 32 #[pair (p:Int) a n cap] w fun e w'=>e=.returned (.string (bs (cY p V)))/\Ext w w':=by
 obtain⟨W,hW⟩:=b9 (w.alloc (.cells #[.int .i64 (p:Int),.slice a n cap] 32));have GV:Ext w W:=by rw[hW];exact Ext.alloc _ _
 have I4:=ae GV;have HT:=ae (fun(w':World) (hx:Ext W w')=>ec ht (GV.trans hx));have HI:=ae (h.ext GV);have l8:=h.l8;have l9:=h.l9;have HL:=ae h.hlen;have G0:=ae (show W.cell? ⟨w.heap.size,0,none⟩=some (.int .i64 (p:Int))by rw[hW];simp);have G1:=ae (show W.cell? ⟨w.heap.size,1,none⟩=some (.slice a n cap)by rw[hW];simp);have HV:=ae hV;have A5:=ae (ed (p:=(p:Int)) HI.o);cases zO:aL (p:Int) V
 ·rw[zO]at A5;have HF:=ae (show bs (cY p V)={ data:=#[] } by unfold cY;rw[zO];rfl);clear h GV hV zO ht;have g0:=G0.o;have g1:=G1.o;go_enter Tryz.func32,Tryz.ntmps32
  go_upto_region 1 with fail;rw[<-hW];clear hW;go_wp2_with fail;refine A5.o.mono ?_;rintro e w1 ⟨rfl,hx⟩;have X1:=ae hx;clear hx;go_wp2_with fail;go_ret;exact⟨bM HF.o.symm,I4.o.trans X1.o⟩
 ·rw[zO]at A5;obtain⟨q,hq,C4,EX,hlen,N4,_⟩:=bQ zO;have PE:=ae N4;obtain rfl:p=q:=by omega
  have Ft:n<=32:=by rw[<-HL.o,hlen];exact(bP p EX).2
  have HF:=ae (show cY p V=eB p++cD V n by unfold cY;rw[hI zO,HL.o]);have KL:=ae (gH (V:=V) hV);have HP:=ae (fun(w':World) (hx:Ext W w')=>uB (w:=w') p e7 (HT.o w' hx));have Fa:=ae (lM (n:=p) e7);clear h GV hV zO hq hlen N4 ht;have g0:=G0.o;have g1:=G1.o;go_enter Tryz.func32,Tryz.ntmps32
  go_upto_region 1 with fail;rw[<-hW];clear hW;go_wp2_with fail;refine A5.o.mono ?_;rintro e w1 ⟨rfl,hx⟩;have X1:=ae hx;clear hx g0 g1;have g0:=X1.o.j9 G0.o;have g1:=X1.o.j9 G1.o;go_wp2_with fail;refine(HP.o _ X1.o).mono ?_;rintro e w2 ⟨rfl,hx⟩;have X2:=ae (X1.o.trans hx);clear hx g0 g1;have g1:=X2.o.j9 G1.o;obtain⟨td,KX⟩:=b9 (bs (Lib.decDigits p));have WW:=ae KX;have Uk:td.size<=21:=by rw[KX,aW];exact Fa.o
  rw[<-KX];clear KX;go_wp2_with fail
  have AT:=ae (show({ data:=#[112,108,97,121,101,114,115,32] }:ByteArray)++td++{ data:=#[10] }=bs (eB p++cD V 0)by
   rw[WW.o];unfold eB;rw[show cD V 0=[]from rfl,ZR,<-bT,<-bT,<-ByteArray.append_assoc]
   rfl)
  rw[AT.o];clear g1
  go_loopg [3,17] n (fun gk oo kk wr=>∃(k:Nat),b7 (gk+k=n)/\kk=.int .i64 (k:Int)/\oo=.string (bs (eB p++cD V k))/\b7 (Ext W wr))
  case atStart=>exact⟨0,ae e7,rfl,rfl,X2⟩
  case round =>
   obtain⟨g1,o7⟩:=b9 gk;subst o7;obtain⟨wr,Aw⟩:=b9 wr;subst Aw;obtain⟨k,HK,rfl,rfl,HX⟩:=hrel;have zQ:=HK.o;by_cases hlt:k<n
   ·obtain⟨b,off,rfl,hc⟩:=(HI.o.ext HX.o).at hlt;have CX:(k:Int)<(n:Int):=by omega
    have Fu:(0:Int)<=(k:Int):=by omega
    obtain⟨v,hv⟩:∃v:Int,V[k]?.getD 0=v:=⟨_,rfl⟩;have hv6:-1000000<=v/\v<=1000000:=by rw[<-hv];exact HV.o k
    rw[hv]at hc;by_cases Lq:v=0
    ·subst Lq;have HS:=ae (show cD V (k+1)=cD V k by rw[fh];unfold iC;rw[hv,hI rfl,ZR]);clear hv;go_wp2_with fail
     go_roundg (g1-1)
     case measure=>have:=HK.o;omega
     case rel=>exact⟨k+1,ae (j1 HK.o),by go_num,by rw[HS.o],HX⟩
    ·have HS:=ae (show cD V (k+1)=cD V k++(cI (k:Int)++([32]++(Lib.itoa v++[10])))by rw[fh];unfold iC;rw[hv,hD Lq]);have hvz:(v != 0)=true:=by simp[Lq]
     have JR:=ae (fun w'=>is (w:=w') k e7);have QF:=ae (fun(w':World) (hx:Ext W w')=>gF (w:=w') v e7 e7 (HT.o w' hx));obtain⟨tc,Rp⟩:=b9 (bs (cI (k:Int)));obtain⟨ti,N8⟩:=b9 (bs (Lib.itoa v));obtain⟨tq,Rn⟩:=b9 (bs (eB p++cD V k));have hcs:tc.size<=5:=by rw[Rp,aW];exact kO _
     have his:ti.size<=21:=by rw[N8,aW];exact np hv6
     have hos:tq.size<=2000:=by
      rw[Rn,aW,pk];have h1:=KL.o k;have h2:=Fa.o;unfold eB;simp only[pk,OX,aap];omega
     have V6:=ae (show tq++(tc++{ data:=#[32] }++ti++{ data:=#[10] })=bs (eB p++cD V (k+1))by
      rw[Rn,Rp,N8]
      show bs _++(bs _++bs [32]++bs _++bs [10])=_;rw[bT,bT,bT,bT,HS.o]
      simp only[N7])
     simp only[<-Rp]at JR;simp only[<-N8]at QF;rw[<-Rn];clear hv Rp N8 Rn;go_wp2_with fail;refine(JR.o _).mono ?_;rintro e w3 ⟨rfl,zm⟩;have zk:=ae (HX.o.trans zm);clear zm hc;go_wp2_with fail;refine(QF.o _ zk.o).mono ?_;rintro e w4 ⟨rfl,zX⟩;have Bk:=ae (zk.o.trans zX);clear zX;go_wp2_with fail;rw[V6.o]
     go_roundg (g1-1)
     case measure=>have:=HK.o;omega
     case rel=>exact⟨k+1,ae (j1 HK.o),by go_num,rfl,Bk⟩
   ·have Jw:n=k:=by omega
    subst Jw;go_wp2_with fail;go_ret;exact⟨bM (by rw[HF.o]),I4.o.trans HX.o⟩
