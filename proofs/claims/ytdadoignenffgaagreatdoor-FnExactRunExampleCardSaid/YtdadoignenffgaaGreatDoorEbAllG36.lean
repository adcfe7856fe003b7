import Derived.Test.YtdadoignenffgaaGreatDoorEbAllG34
import Derived.Test.YtdadoignenffgaaGreatDoorEbAllG35
import Derived.Test.YtdadoignenffgaaGreatDoorEbAllG8
import Derived.Test.YtdadoignenffgaaGreatDoorEbAllG2
import Derived.Lib.Join
import Derived.Deep.DeepCutAuto
import Derived.Deep.Cut
import Derived.Deep.RegionHeld3
import Derived.Outline
set_option linter.unusedVariables false
set_option linter.unusedSimpArgs false
namespace Go.Proofs.YtdadoignenffgaaGreatDoor
open Go.RowKit
abbrev aej:=@Lib.join_cons
variable{l:List UInt8}{k:Nat}{w:World}
set_option maxHeartbeats 16000000
def CK(t:List UInt8):Option Nat:=(List.range 32).find? fun s=>decide (cI (s:Int)=t)
def eC(N:Nat)(last:Int)(l:List UInt8):Option (Nat×Int) :=
 if(Aa 32 l).length=2 then
  match CK ((Aa 32 l)[0]?.getD []),dS ((Aa 32 l)[1]?.getD [])with
  | some s,some v=>if last<(s:Int)/\s<N/\v≠0/\-500<=v/\v<=500 then some (s,v) else none
  | _,_=>none
 else none
theorem nq{N:Nat}{last:Int}{s:Nat}{v:Int}(h:eC N last l=some (s,v)):last<(s:Int)/\s<N/\-500<=v/\v<=500:=by
 unfold eC at h
 split at h
 ·split at h
  ·split at h
   ·next g =>
    simp only[bA,aaG]at h;obtain⟨rfl,rfl⟩:=h;exact⟨g.1,g.2.1,g.2.2.2.1,g.2.2.2.2⟩
   ·cases h
  ·cases h
 ·cases h
def ch(N:Nat)(L:List (List UInt8)):Nat->Except Nat (j7×Int)
 | 0=>.ok (List.replicate N 0,0)
 | k+1=>match ch N L k with
   | .error e=>.error e
   | .ok st=>match eC N st.2 (L[k]?.getD [])with
     | none=>.error (k+1)
     | some sv=>.ok (st.1.set sv.1 sv.2,(sv.1:Int))
theorem mG{N:Nat}{L:List (List UInt8)}{k:Nat}{e:Nat}(h:ch N L k=.error e):∀d,ch N L (k+d)=.error e
 | 0=>h
 | d+1=>by
   show ch N L (k+d+1)=_;rw[ch,mG h d]
theorem lu{N:Nat}{L:List (List UInt8)}:∀{k:Nat} {V:j7} {last:Int},ch N L k=.ok (V,last)->V.length=N/\0<=last/\(∀j:Nat,-500<=V[j]?.getD 0/\V[j]?.getD 0<=500)/\V[0]?.getD 0=0
 | 0,V,last,h=>by
   simp only[ch,Except.ok.injEq,aaG]at h;obtain⟨rfl,rfl⟩:=h;have hz:∀j:Nat,(List.replicate N (0:Int))[j]?.getD 0=0:=fun j=>by
    rw[aaI];split<;>rfl
   exact⟨by simp,by omega,fun j=>by rw[hz j];omega,hz 0⟩
 | k+1,V,last,h=>by
   rw[ch]at h;cases e:ch N L k with
   | error x=>rw[e]at h;cases h
   | ok st =>
     obtain⟨V0,G⟩:=st;rw[e]at h;obtain⟨i1,i2,i3,i4⟩:=lu e;cases e2:eC N G (L[k]?.getD [])with
     | none=>simp only[e2]at h;cases h
     | some sv =>
       obtain⟨s,v⟩:=sv;simp only[e2,Except.ok.injEq,aaG]at h;obtain⟨rfl,rfl⟩:=h;obtain⟨g1,g2,g3,g4⟩:=nq e2;refine⟨by rw[H4,i1],by omega,fun j=>?_,?_⟩
       ·by_cases hj:j=s
        ·subst hj;rw[H3 e7];exact⟨g3,g4⟩
        ·rw[DZ (fun e=>hj e.symm)];exact i3 j
       ·rw[DZ e7];exact i4
def dG(t:List UInt8):List (List UInt8):=if(Aa 10 t)[(Aa 10 t).length-1]?.getD []=[] then(Aa 10 t).take ((Aa 10 t).length-1) else Aa 10 t
def di(t:List UInt8):(Nat×j7)×Int :=
 if dG t=[] then((0,[]),0) else match dq ((dG t)[0]?.getD [])with
  | none=>((0,[]),0)
  | some n=>match ch (2^n.toNat) ((dG t).drop 1) ((dG t).length-1)with
    | .error k=>((0,[]),(k:Int))
    | .ok st=>if cY n.toNat st.1=t then((n.toNat,st.1),-1) else((0,[]),((dG t).length:Int))
def zH:Enc (List UInt8):=⟨fun l=>[.string (bs l)],1,fun _=>rfl,by decide,fun x u hu=>by rw[aav.1 hu];rfl⟩
def Iz:Enc UInt8:=⟨fun c=>[.int .u8 (c.toNat:Int)],1,fun _=>rfl,by decide,fun x u hu=>by rw[aav.1 hu];rfl⟩
theorem od(l:List UInt8)(a b:Nat):(bs l).extract a b=bs ((l.take b).drop a):=by
 unfold bs
 apply ByteArray.ext
 simp[ByteArray.data_extract,List.drop_take]
theorem Zy(l:List UInt8)(a:Nat):(bs l).extract a (bs l).size=bs (l.drop a):=by
 rw[od,aW,aaN]
theorem oc{i:Nat}(h:i<(bs l).size):(bs l)[i]=l[i]?.getD 0:=by
 rw[aW]at h;rw[bk h]
 rfl
theorem rz{m:Nat}(ha:(l.take k).all cv=true)(hk:k<=m)(hm:m<=12):zS (l.take k)<1000000000000:=by
 have h:=vI _ ha;have h2:(l.take k).length<=12:=by rw[FX];omega
 have h3:10^(l.take k).length<=10^12:=acz (by decide) h2;omega
def AG(r:j8):List UInt8:=if o9 r=true then(if r.2=1 then Lib.itoa r.1 else Lib.itoa r.1++([47]++Lib.itoa r.2)) else []
theorem Nj(r:j8):(AG r).length<=50:=by
 unfold AG
 split
 ·next h =>
  unfold o9 r9 at h;simp only[xf,sw]at h;have h1:=aab r.1 e7 e7;have h2:=aab r.2 e7 e7
  split
  ·omega
  ·simp only[pk,OX,aap];omega
 ·simp
def D3(l:j4):List UInt8:=Lib.join (l.map AG) [32]
theorem xR{L:List (List UInt8)}{x s:List UInt8}(h:L≠[]):Lib.join (L++[x]) s=Lib.join L s++s++x:=by
 cases L with
 | nil=>exact absurd rfl h
 | cons y r =>
   rw[aaE,aej,aej];unfold Lib.joinTail;simp
theorem NK{L:List (List UInt8)}{m:Nat}(h:∀x∈L,x.length<=m):(Lib.join L [32]).length<=L.length*(m+1):=by
 cases L with
 | nil=>simp[Lib.join_nil]
 | cons y r =>
   rw[aej,pk];have hr:∀q:List (List UInt8),(∀x∈q,x.length<=m)->(Lib.joinTail [32] q).length<=q.length*(m+1):=by
    intro q
    induction q with
    | nil=>intro _;simp[Lib.joinTail]
    | cons z q ih =>
      intro hq;have h1:=ih fun x hx=>hq x (abj _ hx)
      have h2:=hq z abx;unfold Lib.joinTail at h1⊢;simp only[ad2,List.flatten_cons,pk,OX,aap]at h1⊢;rw[ab4];omega
   have h1:=hr r fun x hx=>h x (abj _ hx)
   have h2:=h y abx;rw[OX,ab4];omega
theorem gX{l:j4}:(D3 l).length<=l.length*51:=by
 have:=NK (L:=l.map AG) (m:=50) (fun x hx=>by obtain⟨r,_,rfl⟩:=aai.1 hx;exact Nj r);rw[zo]at this;exact this
def gZ(c:Int):List UInt8:=if c=0 then [98,97,100] else if c=1 then [112,111,105,110,116] else if c=2 then [101,109,112,116,121] else if c=3 then [108,105,109,105,116] else [63]
theorem qg(c:Int):(gZ c).length<=5:=by
 unfold gZ
 repeat' split
 all_goals simp
set_option maxRecDepth 100000
theorem Tryz.CO:(Tryz.prog.info? 9).map (fun i=>(i.zero,i.size,i.bytes))=some (some (.string ⟨#[]⟩),zH.c,16):=by kernel_rfl
theorem vD{c:UInt8}(h:l[k]?.getD 0=c):AF c l (k+1)=((AF c l k).1++[(l.take k).drop (AF c l k).2],k+1):=by rw[AF,hI h]
theorem tW{c:UInt8}(h:l[k]?.getD 0≠c):AF c l (k+1)=AF c l k:=by rw[AF,hD h]
theorem mC(l:List UInt8)(c:UInt8)(hl:l.length<=1099511627700):
 Calls Tryz.prog 57 #[.string (bs l),.int .u8 (c.toNat:Int)] w fun e w'=>∃v,e=.returned v/\zd zH 9 w' w.heap.size v (Aa c l)/\Ext w w':=by
 obtain⟨t,ht⟩:=b9 (bs l);have hs:t.size=l.length:=by rw[ht,aW]
 have HS:=ae hs;have HB:=ae (show t.size<=1099511627700 by omega);have Q:=ae (show∀(k:Nat) (h:k<t.size),t[k]=l[k]?.getD 0 by subst ht;intro k h;exact oc h);have HX:=ae (show∀a b,t.extract a b=bs ((l.take b).drop a)by subst ht;exact fun a b=>od l a b);have HO:=ae (zd.Az zH 9 w w.heap.size _ rfl (ao _));rw[<-ht];clear ht hs;go_enter Tryz.func57,Tryz.ntmps57
 go_wp2_with fail
 go_loopg [5,6,7] t.size (fun gk oo ff ii wr=>∃(k q n G:Nat) (a:j6) (L:List (List UInt8)),b7 (gk+k=t.size)/\oo=.slice a n G/\ff=.int .i64 (q:Int)/\ii=.int .i64 (k:Int)/\b7 (AF c l k=(L,q))/\b7 (zd zH 9 wr w.heap.size (.slice a n G) L)/\b7 (Ext w wr))
 case atStart=>exact⟨0,0,0,0,_,[],ae rfl,rfl,rfl,rfl,ae rfl,HO,ae (Ext.alloc _ _)⟩
 case round =>
  obtain⟨g1,J⟩:=b9 gk;subst J;obtain⟨wr,Z⟩:=b9 wr;subst Z;obtain⟨k,q,n,G,a,L,I,rfl,rfl,rfl,HP,zv,yZ⟩:=hrel;have HQ:=ae (show q<=k/\L.length<=k by have:=lV c l k;rw[HP.o]at this;exact this);have hq:q<=k:=HQ.o.1;have AS:=HB.o;have AN:=ae (show L.length<=1099511627700 by have:=HQ.o.2;have:=I.o;omega);by_cases hk:k<t.size
  ·obtain⟨x,hx⟩:=b9 (l[k]?.getD 0);have hkx:∀h:k<t.size,t[k]=x:=fun h=>by rw[Q.o k h,hx]
   have Vx:=ae hx;clear hx;by_cases hc:x=c
   ·subst hc;have CS:=ae (BU.lit zH 9 wr [(l.take k).drop q] 1 rfl #[.string (t.extract q k)] (by rw[HX.o];rfl) wr.heap.size rfl e7)
    go_wp2_with (first
     | (at_builtin;refine eU zH Tryz.CO rfl aaD (by decide) rfl _ _ rfl w.heap.size (.slice a n G) L rfl (zv.o.ext (Ext.alloc _ _)) _ 1 1 [(l.take k).drop q] rfl CS.o (j1 AN.o) (by have:=yZ.o.size;simp;omega) ?_;intro v6 w6 ho hg k9;obtain⟨O,K,c6,rfl,H'⟩:=ho.var;have U:=ae ho;have E8:=ae (ak (yZ.o.trans (Ext.alloc _ _)) hg (fun j hj=>(zv.o.lt j hj).1));clear ho hg k9))
    go_roundg (g1-1)
    case measure=>have:=I.o;omega
    case rel=>exact⟨k+1,k+1,K,c6,O,_,ae (j1 I.o),rfl,by go_num,by go_num,ae (by rw[vD Vx.o.symm,HP.o]),U,E8⟩
   ·have hne:((x.toNat:Int) == (c.toNat:Int))=false:=by
     rw[abt];intro e;exact hc (abV.1 e7)
    go_wp2_with fail
    go_roundg (g1-1)
    case measure=>have:=I.o;omega
    case rel=>exact⟨k+1,q,n,G,a,L,ae (j1 I.o),rfl,rfl,by go_num,ae (by rw[tW (by rw[<-Vx.o];exact hc)];exact HP.o),zv,yZ⟩
  ·have Ha:k=t.size:=by have:=I.o;omega
   have HE:=ae (show Aa c l=L++[l.drop q]by unfold Aa;rw[<-HS.o,<-Ha,HP.o]);have HD:=ae (show(l.take t.size).drop q=l.drop q by rw[HS.o,aaN]);have CS:=ae (BU.lit zH 9 wr [l.drop q] 1 rfl #[.string (t.extract q t.size)] (by rw[HX.o,HD.o];rfl) wr.heap.size rfl e7)
   go_wp2_with (first
    | (at_builtin;refine eU zH Tryz.CO rfl aaD (by decide) rfl _ _ rfl w.heap.size (.slice a n G) L rfl (zv.o.ext (Ext.alloc _ _)) _ 1 1 [l.drop q] rfl CS.o (j1 AN.o) (by have:=yZ.o.size;simp;omega) ?_;intro v6 w6 ho hg k9;have E8:=ae (ak (yZ.o.trans (Ext.alloc _ _)) hg (fun j hj=>(zv.o.lt j hj).1));clear hg k9))
   go_ret;exact⟨_,rfl,by rw[HE.o];exact ho,E8.o⟩
theorem jG(l:List UInt8)(c:UInt8)(hl:l.length<=1099511627700):
 Calls Tryz.prog 36 #[.string (bs l),.int .u8 (c.toNat:Int)] w fun e w'=>∃v,e=.returned v/\zd zH 9 w' w.heap.size v (Aa c l)/\Ext w w':=by
 obtain⟨t,ht⟩:=b9 (bs l);have hs:t.size=l.length:=by rw[ht,aW]
 have HS:=ae hs;have HB:=ae (show t.size<=1099511627700 by omega);have Z:=ae (show∀(k:Nat) (h:k<t.size),t[k]=l[k]?.getD 0 by subst ht;intro k h;exact oc h);have HX:=ae (show∀a b,t.extract a b=bs ((l.take b).drop a)by subst ht;exact fun a b=>od l a b);have HO:=ae (zd.Az zH 9 w w.heap.size _ rfl (ao _));rw[<-ht];clear ht hs;go_enter Tryz.func36,Tryz.ntmps36
 go_wp2_with fail
 go_loopg [5,6,7] (t.size+1) (fun gk oo ff ii wr=>∃(k q n G:Nat) (a:j6) (L:List (List UInt8)),b7 (gk+k=t.size+1)/\oo=.slice a n G/\ff=.int .i64 (q:Int)/\ii=.int .i64 (k:Int)/\b7 (if k<=t.size then AF c l k=(L,q) else L=Aa c l)/\b7 (zd zH 9 wr w.heap.size (.slice a n G) L)/\b7 (Ext w wr))
 case atStart=>exact⟨0,0,0,0,_,[],ae e7,rfl,rfl,rfl,ae (by rw[hI e7];rfl),HO,ae (Ext.alloc _ _)⟩
 case round =>
  obtain⟨g1,U⟩:=b9 gk;subst U;obtain⟨wr,Aw⟩:=b9 wr;subst Aw;obtain⟨k,q,n,G,a,L,I,rfl,rfl,rfl,EC,zv,yZ⟩:=hrel;have AS:=HB.o;by_cases BR:k<=t.size
  ·have HP:=ae (show AF c l k=(L,q)by have:=EC.o;rwa [hI BR]at this);clear EC;have HQ:=ae (show q<=k/\L.length<=k by have:=lV c l k;rw[HP.o]at this;exact this);have hq:q<=k:=HQ.o.1;have AN:=ae (show L.length<=1099511627700 by have:=HQ.o.2;omega);by_cases hk:k<t.size
   ·obtain⟨x,hx⟩:=b9 (l[k]?.getD 0);have hkx:∀h:k<t.size,t[k]=x:=fun h=>by rw[Z.o k h,hx]
    have Vx:=ae hx;have K:((k:Int) == (t.size:Int))=false:=by simp;omega
    clear hx;by_cases hc:x=c
    ·subst hc;have CS:=ae (BU.lit zH 9 wr [(l.take k).drop q] 1 rfl #[.string (t.extract q k)] (by rw[HX.o];rfl) wr.heap.size rfl e7)
     go_wp2_with (first
     | (at_builtin;refine eU zH Tryz.CO rfl aaD (by decide) rfl _ _ rfl w.heap.size (.slice a n G) L rfl (zv.o.ext (Ext.alloc _ _)) _ 1 1 [(l.take k).drop q] rfl CS.o (j1 AN.o) (by have:=yZ.o.size;simp;omega) ?_;intro v6 w6 ho hg k9;obtain⟨O,J,c6,rfl,H'⟩:=ho.var;have Q:=ae ho;have E8:=ae (ak (yZ.o.trans (Ext.alloc _ _)) hg (fun j hj=>(zv.o.lt j hj).1));clear ho hg k9))
     go_roundg (g1-1)
     case measure=>have:=I.o;omega
     case rel=>exact⟨k+1,k+1,J,c6,O,_,ae (j1 I.o),rfl,by go_num,by go_num,ae (by rw[hI e7,vD Vx.o.symm,HP.o]),Q,E8⟩
    ·have hne:((x.toNat:Int) == (c.toNat:Int))=false:=by
      rw[abt];intro e;exact hc (abV.1 e7)
     go_wp2_with fail
     go_roundg (g1-1)
     case measure=>have:=I.o;omega
     case rel=>exact⟨k+1,q,n,G,a,L,ae (j1 I.o),rfl,rfl,by go_num,ae (by rw[hI e7,tW (by rw[<-Vx.o];exact hc)];exact HP.o),zv,yZ⟩
   ·have Ha:k=t.size:=by omega
    have HE:=ae (show Aa c l=L++[(l.take k).drop q]by unfold Aa;rw[<-HS.o,<-Ha,HP.o];rw[show l.take k=l from p4 (by rw[<-HS.o];omega)]);have K:((k:Int) == (t.size:Int))=true:=by simp;omega
    have CS:=ae (BU.lit zH 9 wr [(l.take k).drop q] 1 rfl #[.string (t.extract q k)] (by rw[HX.o];rfl) wr.heap.size rfl e7);clear Ha
    go_wp2_with (first
    | (at_builtin;refine eU zH Tryz.CO rfl aaD (by decide) rfl _ _ rfl w.heap.size (.slice a n G) L rfl (zv.o.ext (Ext.alloc _ _)) _ 1 1 [(l.take k).drop q] rfl CS.o (j1 AN.o) (by have:=yZ.o.size;simp;omega) ?_;intro v6 w6 ho hg k9;obtain⟨O,J,c6,rfl,H'⟩:=ho.var;have Q:=ae ho;have E8:=ae (ak (yZ.o.trans (Ext.alloc _ _)) hg (fun j hj=>(zv.o.lt j hj).1));clear ho hg k9))
    go_roundg (g1-1)
    case measure=>have:=I.o;omega
    case rel=>exact⟨k+1,k+1,J,c6,O,_,ae (j1 I.o),rfl,by go_num,by go_num,ae (by rw[hD e7];exact HE.o.symm),Q,E8⟩
  ·have HP:=ae (show L=Aa c l by have:=EC.o;rwa [hD BR]at this);clear EC;go_wp2_with fail;go_ret;exact⟨_,rfl,by rw[<-HP.o];exact zv.o,yZ.o⟩
theorem tN(l:List UInt8)(m:Nat)(hm:m<=12):
 Calls Tryz.prog 163 #[.string (bs l),.int .i64 (m:Int)] w fun e w'=>e=.returned (.tuple #[.int .i64 ((fq l m).getD 0),.bool (fq l m).isSome])/\Ext w w':=by
 obtain⟨b,hb⟩:∃b:Bool,b=decide (l[0]?=some 45):=⟨_,rfl⟩;obtain⟨dl,K⟩:=b9 (if l[0]?=some 45 then l.drop 1 else l)
 have J6:=ae (show fq l m=if(1<=dl.length/\dl.length<=m)/\dl.all cv=true/\Lib.itoa (if b=true then -(zS dl:Int) else(zS dl:Int))=l then some (if b=true then -(zS dl:Int) else(zS dl:Int)) else none by
  by_cases h:l[0]?=some 45
  ·rw[hb,K];unfold fq;simp[h]
  ·rw[hb,K];unfold fq;simp[h])
 have Fa:=ae (show dl=if b=true then l.drop 1 else l by rw[K,hb];simp);have EI:=ae hb;obtain⟨R,hR⟩:=b9 (fq l m);rw[<-hR]at J6;rw[<-hR];clear hR hb K;obtain⟨t,ht⟩:=b9 (bs l);obtain⟨G,Q⟩:=b9 (bs dl);have HT:=ae ht;have WW:=ae Q;have HS:=ae (show t.size=l.length by rw[ht,aW]);have O:=ae (show G.size=dl.length by rw[Q,aW]);have Lm:=ae (show∀(k:Nat) (h:k<t.size),t[k]=l[k]?.getD 0 by subst ht;intro k h;exact oc h);have HAD:=ae (show∀(k:Nat) (h:k<G.size),G[k]=dl[k]?.getD 0 by subst Q;intro k h;exact oc h);rw[<-ht];clear ht Q;go_enter Tryz.func163,Tryz.ntmps163
 go_upto_region 1 with fail
 go_cut [6] (fun v wx=>v=.bool b/\b7 (w=wx))
 case first =>
  by_cases h0:0<t.size
  ·obtain⟨c0,AB⟩:=b9 (l[0]?.getD 0);have Wy:∀h:0<t.size,t[0]=c0:=fun h=>by rw[Lm.o 0 h,AB]
   have Ck:=ae (show((c0.toNat:Int) == 45)=b by
    rw[EI.o,AB,bk (by rw[<-HS.o];exact h0)];simp only[l',bA];rw[U9];simp only[beq_iff_eq,sw];constructor
    ·intro e;exact abV.1 (by rw[show(45:UInt8).toNat=45 from rfl];omega)
    ·intro e;rw[e];rfl)
   clear AB;go_wp2_with fail;go_meet;exact⟨by rw[Ck.o],rfl⟩
  ·have Ck:=ae (show b=false by
    rw[EI.o,G4 (by rw[<-HS.o];omega)];rfl)
   go_wp2_with fail;go_meet;exact⟨by rw[Ck.o],rfl⟩
 obtain⟨rfl,hw⟩:=hcut;obtain rfl:=hw.out;clear hw
 go_upto_if 19 with fail
 go_cut [7] (fun v wx=>v=.string G/\b7 (w=wx))
 case first =>
  cases b with
  | true =>
    have HE:=ae (show t.extract 1 t.size=G by rw[HT.o,Zy,WW.o,Fa.o];rfl);have h1:1<=t.size:=by
     have:=EI.o;rw[eq_comm,sw]at this;have:=(RI.1 this).1;rw[HS.o];omega
    go_wp2_with fail;go_meet;exact⟨by rw[HE.o],rfl⟩
  | false =>
    have HE:=ae (show t=G by rw[HT.o,WW.o,Fa.o];rfl);go_wp2_with fail;go_meet;exact⟨by rw[HE.o],rfl⟩
 obtain⟨rfl,hw⟩:=hcut;obtain rfl:=hw.out;clear hw;by_cases h1:G.size<1
 ·have HR:=ae (show R=none by rw[J6.o,hD (by rw[<-O.o];omega)]);obtain rfl:=HR.o;go_wp2_with fail
  go_ret2
  exact⟨rfl,Ext.refl _⟩
 by_cases h2:m<G.size
 ·have HR:=ae (show R=none by rw[J6.o,hD (by rw[<-O.o];omega)]);obtain rfl:=HR.o;go_wp2_with fail
  go_ret2
  exact⟨rfl,Ext.refl _⟩
 have HB:=ae (show G.size<=12 by omega);go_wp2_with fail
 go_loopg [8,9] G.size (fun gk nn ii wr=>∃(k:Nat),b7 (gk+k=G.size)/\nn=.int .i64 (zS (dl.take k):Int)/\ii=.int .i64 (k:Int)/\b7 ((dl.take k).all cv=true)/\b7 (w=wr))
 case atStart=>exact⟨0,ae rfl,rfl,rfl,ae rfl,ae rfl⟩
 case round =>
  obtain⟨g1,o7⟩:=b9 gk;subst o7;obtain⟨wr,Aw⟩:=b9 wr;subst Aw;obtain⟨k,U,rfl,rfl,HA,HW⟩:=hrel;obtain rfl:=HW.o;obtain⟨v,hv⟩:=b9 (zS (dl.take k));have HV:=ae hv;rw[<-hv];clear hv;have Eg:=ae (show v<1000000000000 by rw[HV.o];exact rz (m:=G.size) HA.o (j1 U.o) HB.o);by_cases hk:k<G.size
  ·obtain⟨c,hc⟩:=b9 (dl[k]?.getD 0);have hkc:∀h:k<G.size,G[k]=c:=fun h=>by rw[HAD.o k h,hc]
   have e1:dl[k]?=some c:=by rw[hc,bk (by rw[<-O.o];exact hk)];rfl
   have HE:=ae e1;clear hc e1;by_cases hd:cv c=true
   ·have Bw:=ae (eX HE.o);unfold cv at hd;rw[sw]at hd;obtain⟨d,I⟩:∃d,c.toNat=d+48:=⟨c.toNat-48,by omega⟩;have hd9:d<=9:=by omega
    have A4:=Eg.o;have Kk:IntKind.u8.wrap (((d+48:Nat):Int)-48)=(d:Int):=by rw[aby];omega
    have hci:(c.toNat:Int)=((d+48:Nat):Int):=by rw[I]
    have VF:=ae (show zS (dl.take (k+1))=10*v+d by rw[Bw.o,iq,<-HV.o,I];omega);have HAN:=ae (show(dl.take (k+1)).all cv=true by rw[Bw.o,RN,HA.o];simp[cv,I,hd9]);go_wp2_with fail
    go_roundg (g1-1)
    case measure=>have:=U.o;omega
    case rel=>exact⟨k+1,ae (j1 U.o),by rw[VF.o];go_num,by go_num,HAN,ae rfl⟩
   ·have HR:=ae (show R=none by
     rw[J6.o,hD (fun g=>by
      have:=Di.1 g.2.1 c (aaf HE.o)
      exact hd this)])
    obtain rfl:=HR.o;unfold cv at hd;rw[sw]at hd
    rcases ab5 c.toNat 48 with h6|h6
    ·go_wp2_with fail
     go_ret2
     exact⟨rfl,Ext.refl _⟩
    ·have h7:57<c.toNat:=by omega
     go_wp2_with fail
     go_ret2
     exact⟨rfl,Ext.refl _⟩
  ·have Ha:k=G.size:=by have:=U.o;omega
   have e:dl.length=k:=by rw[Ha,O.o]
   obtain⟨Z,hZ⟩:∃Z:Int,Z=if b=true then -(zS dl:Int) else(zS dl:Int):=⟨_,rfl⟩
   have Qh:v=zS dl:=by rw[HV.o,<-e,aaN]
   have had:dl.all cv=true:=by have:=HA.o;rwa [<-e,aaN]at this
   have HR:=ae (show R=if Lib.itoa Z=l then some Z else none by
    rw[J6.o,<-hZ];by_cases hq:Lib.itoa Z=l
    ·rw[hI hq,hI ⟨⟨by omega,by omega⟩,had,hq⟩]
    ·rw[hD hq,hD fun g=>hq g.2.2])
   have HZ:=ae (show Z=if b=true then -(v:Int) else(v:Int)by rw[hZ,Qh]);have A4:=Eg.o;clear hZ Qh had e Ha
   go_upto_if 55 with fail
   go_cut [8] (fun v wx=>v=.int .i64 Z/\b7 (w=wx))
   case first =>
    cases b with
    | true =>
      have ZG:=ae (show Z=-(v:Int)from HZ.o);go_wp2_with fail;go_meet;exact⟨by rw[ZG.o],rfl⟩
    | false =>
      have ZG:=ae (show Z=(v:Int)from HZ.o);go_wp2_with fail;go_meet;exact⟨by rw[ZG.o],rfl⟩
   obtain⟨rfl,hw⟩:=hcut;obtain rfl:=hw.out;clear hw;have HF:=ae (fA (w:=w) Z (by have:=HZ.o;split at this<;>omega) (by have:=HZ.o;split at this<;>omega));clear A4;by_cases hq:Lib.itoa Z=l
   ·have DA:=ae (show R=some Z by rw[HR.o,hI hq]);obtain rfl:=DA.o;have hne:((bs (Lib.itoa Z)).toList == t.toList)=true:=by rw[HT.o,bW,bW,hq];simp
    clear hq;obtain⟨tz,J⟩:=b9 (bs (Lib.itoa Z));rw[<-J]at hne HF;clear J;go_wp2_with fail;refine HF.o.mono ?_;rintro e w1 ⟨rfl,hx⟩;have HX:=ae hx;clear hx;go_wp2_with fail
    go_ret2
    exact⟨rfl,HX.o⟩
   ·have DA:=ae (show R=none by rw[HR.o,hD hq]);obtain rfl:=DA.o;have hne:((bs (Lib.itoa Z)).toList == t.toList)=false:=by rw[HT.o,bW,bW];simpa using hq
    clear hq;obtain⟨tz,J⟩:=b9 (bs (Lib.itoa Z));rw[<-J]at hne HF;clear J;go_wp2_with fail;refine HF.o.mono ?_;rintro e w1 ⟨rfl,hx⟩;have HX:=ae hx;clear hx;go_wp2_with fail
    go_ret2
    exact⟨rfl,HX.o⟩
theorem wT(l:List UInt8):Calls Tryz.prog 101 #[.string (bs l)] w fun e w'=>e=.returned (.tuple #[.int .i64 ((dS l).getD 0),.bool (dS l).isSome])/\Ext w w':=by
 have HD:=ae (tN (w:=w) l 12 e7);rw[yx]at HD;obtain⟨a,ha⟩:=b9 ((dS l).getD 0);obtain⟨b,hb⟩:=b9 ((dS l).isSome);rw[<-ha,<-hb]at HD;rw[<-ha,<-hb];clear ha hb;go_enter Tryz.func101,Tryz.ntmps101
 go_wp2_with fail;refine HD.o.mono ?_;rintro e w1 ⟨rfl,hx⟩;have HX:=ae hx;clear hx;go_wp2_with fail
 go_ret2
 exact⟨rfl,HX.o⟩
theorem rH(l:List UInt8):Calls Tryz.prog 98 #[.string (bs l)] w fun e w'=>e=.returned (.tuple #[.int .i64 (if 0<=aw l 6 then aw l 6 else 0),.bool (decide (0<=aw l 6))])/\Ext w w':=by
 have HD:=ae (tN (w:=w) l 6 e7);have hr:=nw l
 have HE:=ae (show(if 0<=aw l 6 then aw l 6 else 0)=(((fq l 6).bind (fun n=>if n<0 then none else some n)).getD 0)/\decide (0<=aw l 6)=((fq l 6).bind (fun n=>if n<0 then none else some n)).isSome by
  rw[hr];by_cases h:0<=aw l 6
  ·simp[h]
  ·simp[h])
 rw[HE.o.1,HE.o.2];clear hr HE;cases hR:fq l 6 with
 | none =>
   rw[hR]at HD;go_enter aeU,aeH
   go_wp2_with fail;refine HD.o.mono ?_;rintro e w1 ⟨rfl,hx⟩;have HX:=ae hx;clear hx;go_wp2_with fail
   go_ret2
   exact⟨rfl,HX.o⟩
 | some n =>
   rw[hR]at HD;clear hR;by_cases h0:n<0
   ·rw[show(Option.bind (some n) fun n=>if n<0 then none else some n)=none from hI h0];go_enter aeU,aeH
    go_wp2_with fail;refine HD.o.mono ?_;rintro e w1 ⟨rfl,hx⟩;have HX:=ae hx;clear hx;go_wp2_with fail
    go_ret2
    exact⟨rfl,HX.o⟩
   ·rw[show(Option.bind (some n) fun n=>if n<0 then none else some n)=some n from hD h0];go_enter aeU,aeH
    go_wp2_with fail;refine HD.o.mono ?_;rintro e w1 ⟨rfl,hx⟩;have HX:=ae hx;clear hx;go_wp2_with fail
    go_ret2
    exact⟨rfl,HX.o⟩
