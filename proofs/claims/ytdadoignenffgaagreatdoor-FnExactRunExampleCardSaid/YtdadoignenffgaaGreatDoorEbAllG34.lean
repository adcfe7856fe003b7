import Derived.Test.YtdadoignenffgaaGreatDoorEbAllG23
import Derived.Test.YtdadoignenffgaaGreatDoorEbAllG24
import Derived.Test.YtdadoignenffgaaGreatDoorEbAllG33
import Derived.Deep.DeepCutAuto
import Derived.Lib.ItoaNum
import Derived.Shelf.Strconv.Itoa3
import Derived.Test.YtdadoignenffgaaGreatDoorProg
set_option linter.unusedVariables false
set_option linter.unusedSimpArgs false
namespace Go.Proofs.YtdadoignenffgaaGreatDoor
open Go.RowKit
abbrev abY:=@Lib.itoa_nonneg
variable{V:j7}{w:World}{m:Nat}{l:List UInt8}{c:UInt8}
set_option maxHeartbeats 16000000
set_option maxRecDepth 100000
def ew:Nat->Int
 | 0=>1
 | k+1=>((k:Int)+1)*ew k
def cK(n:Int):Int:=ew n.toNat
theorem iS(m:Nat)(h:m<=5):1<=ew m/\ew m<=120:=by
 have:m=0∨m=1∨m=2∨m=3∨m=4∨m=5:=by omega
 rcases this with rfl|rfl|rfl|rfl|rfl|rfl<;>decide
def TR(n i:Nat):Int:=ew i*ew (n-1-i)
theorem TQ(n i:Nat)(hn:n<=5)(hi:i<=5):0<=TR n i/\TR n i<=1000:=by
 have h1:∀n:Fin 6,∀i:Fin 6,0<=TR n.val i.val/\TR n.val i.val<=1000:=by decide +kernel
 exact h1 ⟨n,by omega⟩ ⟨i,by omega⟩
def JV(n i:Nat):Int:=if i<=5 then TR n i else 0
theorem tR(n:Nat)(hn:n<=5)(i:Nat):-1000<=JV n i/\JV n i<=1000:=by
 unfold JV;split
 ·have:=TQ n i hn (by assumption);omega
 ·omega
def pi(p:Int)(V:j7)(k:Nat):j4:=if aL p V=true then Gm (JV p.toNat) V (cK p) k else []
def gL(p:Int)(V:j7):j4:=pi p V p.toNat
theorem lE{p:Int}(k:Nat)(h:aL p V=false):pi p V k=[]:=by simp[pi,h]
theorem nN{p:Int}(k:Nat)(h:aL p V=true):pi p V k=Gm (JV p.toNat) V (cK p) k:=by simp[pi,h]
theorem rq(p:Int)(V:j7):(gL p V).length<=5:=by
 unfold gL;cases h:aL p V
 ·rw[lE _ h];simp
 ·obtain⟨n,rfl,_,h5,_⟩:=bQ h;rw[nN _ h,mR];simpa using h5
theorem rU{n:Int}{j:Nat}(h1:j=0∨(j:Int)+1<=n)(h2:¬(j:Int)+2<=n):ew (j+1)=cK n:=by
 unfold cK
 rcases h1 with rfl|h1
 ·have:n.toNat=0∨n.toNat=1:=by omega
  rcases this with h|h<;>rw[h]<;>decide
 ·rw[show n.toNat=j+1 by omega]
theorem mD(n:Int)(hn:n<=5)(w:World):Calls Tryz.prog 67 #[.int .i64 n] w fun e w'=>e=.returned (.int .i64 (cK n))/\w=w':=by
 go_enter Tryz.func67,Tryz.ntmps67
 go_wp2
 go_loop [3,4] (fun o i=>∃j:Nat,b7 (j=0∨(j:Int)+1<=n)/\i=.int .i64 ((j:Int)+2)/\o=.int .i64 (ew (j+1))) (fun _ i=>(8-intOf i).toNat)
 case atStart=>exact⟨0,ae (.inl rfl),by simp,by rfl⟩
 case round =>
  obtain⟨j,HJ,rfl,I⟩:=hrel;obtain⟨T,G⟩:=b9 (ew (j+1));rw[<-G]at I;subst I;have HT:=ae G;clear G;have hj5:j<=4:=by have:=HJ.o;omega
  by_cases hlt:(j:Int)+2<=n
  ·have hmul:IntKind.i64.wrap (T*((j:Int)+2))=ew (j+2):=by
    have h1:T*((j:Int)+2)=ew (j+2):=by rw[HT.o];show _=(((j+1:Nat):Int)+1)*ew (j+1);rw[acx];congr 1
    have h2:=iS (j+2) e7;rw[h1,cn];omega
   go_wp2
   go_round
   case rel=>exact⟨j+1,ae (.inr e7),by go_num,by rfl⟩
   case measure=>simp[intOf];omega
  ·have HE:=ae (rU HJ.o hlt)
   go_wp2
   go_ret;exact⟨ap (by rw[HT.o,HE.o]),rfl⟩
theorem jS(n:Int)(hn:n<=5)(w:World):Calls Tryz.prog 42 #[.int .i64 n] w fun e w'=>e=.returned (.int .i64 (cK n))/\w=w':=by
 go_enter Tryz.func42,Tryz.ntmps42
 go_wp2
 go_loop [3,4] (fun o i=>∃j:Nat,b7 (j=0∨(j:Int)+1<=n)/\i=.int .i64 ((j:Int)+2)/\o=.int .i64 (ew (j+1))) (fun _ i=>(8-intOf i).toNat)
 case atStart=>exact⟨0,ae (.inl rfl),by simp,by rfl⟩
 case round =>
  obtain⟨j,HJ,rfl,I⟩:=hrel;obtain⟨T,G⟩:=b9 (ew (j+1));rw[<-G]at I;subst I;have HT:=ae G;clear G;have hj5:j<=4:=by have:=HJ.o;omega
  by_cases hlt:(j:Int)+2<=n
  ·have hmul:IntKind.i64.wrap (T*((j:Int)+2))=ew (j+2):=by
    have h1:T*((j:Int)+2)=ew (j+2):=by rw[HT.o];show _=(((j+1:Nat):Int)+1)*ew (j+1);rw[acx];congr 1
    have h2:=iS (j+2) e7;rw[h1,cn];omega
   go_wp2
   go_round
   case rel=>exact⟨j+1,ae (.inr e7),by go_num,by rfl⟩
   case measure=>simp[intOf];omega
  ·have HE:=ae (rU HJ.o hlt)
   go_wp2
   go_ret;exact⟨ap (by rw[HT.o,HE.o]),rfl⟩
theorem oH(s n:Nat)(hs:s<=5)(h1:1<=n)(h5:n<=5){b:Nat}(hc:w.cell? ⟨b,0,none⟩=some (.int .i64 (n:Int))):Calls Tryz.prog 66 #[.int .i64 (s:Int),.pointer (some ⟨b,0,none⟩)] w fun e w'=>e=.returned (.int .i64 (JV n s))/\Ext w w':=by
 have HV:=ae (show cK (s:Int)*cK ((n:Int)-1-(s:Int))=JV n s by
  unfold JV TR cK
  rw[hI hs,show((n:Int)-1-(s:Int)).toNat=n-1-s by omega];rfl)
 have AS:=iS s hs;have AD:=iS (n-1-s) e7;have G:1<=cK (s:Int)/\cK (s:Int)<=120:=by unfold cK;rw[CI];exact AS
 have hB1:1<=cK ((n:Int)-1-(s:Int))/\cK ((n:Int)-1-(s:Int))<=120:=by unfold cK;rw[show((n:Int)-1-(s:Int)).toNat=n-1-s by omega];exact AD
 have hm:=px (x:=cK (s:Int)) (y:=cK ((n:Int)-1-(s:Int))) e7 e7 e7 e7;have e1:IntKind.i64.wrap (cK (s:Int)*cK ((n:Int)-1-(s:Int)))=JV n s:=by rw[<-HV.o,cn];omega
 have e2:IntKind.i64.wrap ((n:Int)-1)=(n:Int)-1:=by rw[cn];omega
 have e3:IntKind.i64.wrap ((n:Int)-1-(s:Int))=(n:Int)-1-(s:Int):=by rw[cn];omega
 clear G hB1 AS AD hm;go_enter Tryz.func66,Tryz.ntmps66
 go_wp2
 go_quiet ((first|(go_at_call 67;exact aU (mD _ e7 _))))
 go_wp2
 go_ret;exact⟨rfl,Bj.ext ⟨_,rfl⟩⟩
theorem mX:IsGo Tryz.prog 66:=isGo Tryz.func66 e9 e9
theorem pJ{x:Int}{a:j6}{cap:Nat}(h:Ints w a m cap V):
 Calls Tryz.prog 24 #[pair x a m cap] w fun e w'=>(∃v,e=.returned (.tuple #[v,.bool (aL x V)])/\o0 w' w.heap.size v (gL x V))/\Ext w w':=by
 have hi:=h.alloc (.cells #[.int .i64 x,.slice a m cap] 32);have HX:=ae (Ext.alloc w (.cells #[.int .i64 x,.slice a m cap] 32));have HL:=ae h.hlen;have HI:=ae hi;have HV:=ae (ed (p:=x) hi);clear h hi;cases hv:aL x V
 ·rw[hv]at HV;have BV:=ae hv;clear hv;go_enter Tryz.func24,Tryz.ntmps24
  go_wp2_with fail;refine HV.o.mono ?_;rintro e w1 ⟨rfl,hx⟩
  go_wp2
  refine bR (v:=.tuple #[.slice none 0 0,.bool false]) (by simp[results,Tryz.results24,go_sem]) rfl ⟨⟨_,rfl,by unfold gL;rw[lE _ BV.o];exact o0.nil _ _⟩,HX.o.trans hx⟩
 ·rw[hv]at HV;obtain⟨n,rfl,h1,h5,hlen,_,Iv⟩:=bQ hv;have BV:=ae hv;have hm:m=cN n:=by have:=HL.o;omega
  have HM:=ae hm;have Q:=ae Iv;clear hv hlen Iv hm;go_enter Tryz.func24,Tryz.ntmps24
  go_wp2_with fail;refine HV.o.mono ?_;rintro e w1 ⟨rfl,hx⟩;have c0:w1.cell? ⟨w.heap.size,0,none⟩=some (.int .i64 (n:Int)):=hx.j9 e8;have c1:w1.cell? ⟨w.heap.size,1,none⟩=some (.slice a m cap):=hx.j9 e8;have X1:=ae (HX.o.trans hx);obtain⟨W,hW⟩:=b9 (w1.alloc (.cells #[.int .i64 (n:Int)] 3));have G:Ext w1 W:=by rw[hW];exact Ext.alloc _ _
  have Hp:=ae ((HI.o.ext hx).ext G);have XW:=ae (X1.o.trans G);have J:W.cell? ⟨w1.heap.size,0,none⟩=some (.int .i64 (n:Int)):=by rw[hW];simp
  have HT:b7 (iu Tryz.prog W 66 #[.pointer (some ⟨w1.heap.size,0,none⟩)] 6 (JV n)):=ae fun s w2 hs zJ=>oH s n e7 h1 h5 (zJ.j9 J)
  clear hx;go_upto_region 4 with fail;rw[<-hW];replace c0:=G.j9 c0;replace c1:=G.j9 c1;clear hW G;have k7:Ext W W.drew:=Ext.drew W;have k8:=ae (fun(w':World) (h:Ext W w')=>(⟨h.j9 c0,h.j9 c1,h.j9 J,h⟩:w'.cell? ⟨w.heap.size,0,none⟩=some (.int .i64 (n:Int))/\w'.cell? ⟨w.heap.size,1,none⟩=some (.slice a m cap)/\w'.cell? ⟨w1.heap.size,0,none⟩=some (.int .i64 (n:Int))/\Ext W w'));have I:=XW.o.size
  go_region_held3 (fun w'=>w'.cell? ⟨w.heap.size,0,none⟩=some (.int .i64 (n:Int))/\w'.cell? ⟨w.heap.size,1,none⟩=some (.slice a m cap)/\w'.cell? ⟨w1.heap.size,0,none⟩=some (.int .i64 (n:Int))/\Ext W w')
   (first
     | with_reducible exact k8.o _ k7)
   (first
     | (go_at_call 67
        (with_reducible refine(mD _ e7 _).mono ?_)
        rintro e w4 ⟨rfl,rfl⟩)
     | (go_at_call 65
        (with_reducible refine(ww (Hp.o.ext k7) h1 h5 HM.o Q.o (tR n h5) mX (HT.o.ext k7)).mono ?_)
        rintro e w5 ⟨⟨v5,rfl,K⟩,AK⟩;have O:=ae K;have k7:=k7.trans AK
        clear K AK)
     | fail)
  all_goals go_wp2_with fail
  all_goals refine bR (v:=.tuple #[v5,.bool true]) (by simp[results,Tryz.results24,go_sem]) rfl ⟨⟨_,rfl,?_⟩,XW.o.trans k7⟩
  all_goals
   unfold gL;rw[nN _ BV.o,CI];exact O.o.mono (by simpa using I)
theorem Xp{n q:Nat}(hq:q<=5):cK (q:Int)*cK ((n:Int)-(q:Int)-1)=JV n q:=by
 unfold JV TR cK;rw[hI hq,show((n:Int)-(q:Int)-1).toNat=n-1-q by omega];rfl
theorem rT{n:Int}(h:n<=5):1<=cK n/\cK n<=120:=iS _ e7
theorem pV{x:Int}{a:j6}{cap:Nat}(h:Ints w a m cap V):
 Calls Tryz.prog 17 #[pair x a m cap] w fun e w'=>(∃v,e=.returned (.tuple #[v,.bool (aL x V)])/\o0 w' w.heap.size v (gL x V))/\Ext w w':=by
 obtain⟨W,hW⟩:=b9 (w.alloc (.cells #[.int .i64 x,.slice a m cap] 32));have Ai:=ae (show W.heap.size=w.heap.size+1 by rw[hW];simp);have HX:=ae (show Ext w W by rw[hW];exact Ext.alloc _ _);have KO:=ae (show W.cell? ⟨w.heap.size,0,none⟩=some (.int .i64 x)by rw[hW];simp);have Mb:=ae (show W.cell? ⟨w.heap.size,1,none⟩=some (.slice a m cap)by rw[hW];simp)
 have HO:=ae (show o0 (W.alloc (.cells #[] 62)) (w.heap.size+1) (.slice (some ⟨w.heap.size+1,0,none⟩) 0 0) []by
  have:=o0.made (w.alloc (.cells #[.int .i64 x,.slice a m cap] 32)) (w.heap.size+1) e8
  rw[hW];simpa using this)
 have HL:=ae h.hlen;have HI:=ae (h.ext HX.o);have l9:=h.l9;have l8:=h.l8;have HV:=ae (es (p:=x) (HI.o.ext (Ext.alloc W (.cells #[] 62))));clear h;cases hv:aL x V
 ·have BV:=ae hv;rw[hv,hW]at HV;clear hv;go_enter Tryz.func17,Tryz.ntmps17
  go_wp2_with fail;refine HV.o.mono ?_;rw[<-hW];rintro e w2 ⟨rfl,zJ⟩
  go_wp2
  refine bR (v:=.tuple #[.slice (some ⟨w.heap.size+1,0,none⟩) 0 0,.bool false]) (by simp[results,Tryz.results17,go_sem]) rfl ⟨⟨_,rfl,by unfold gL;rw[lE _ BV.o];exact(HO.o.ext zJ).mono e7⟩,HX.o.trans ((Ext.alloc _ _).trans zJ)⟩
 obtain⟨n,rfl,h1,h5,hlen,_,Iv⟩:=bQ hv;have BV:=ae hv;have hm:m=cN n:=by have:=HL.o;omega
 have hN:=bP n h5;have HM:=ae hm;have FT:=ae Iv;have UC:m<=32:=by omega
 rw[hv,hW]at HV;clear hv hlen Iv hm hN;go_enter Tryz.func17,Tryz.ntmps17
 go_wp2_with fail;refine HV.o.mono ?_;rw[<-hW];clear hW;rintro e w1 ⟨rfl,Z⟩;have yZ:=ae ((Ext.alloc W (.cells #[] 62)).trans Z);have c0:=yZ.o.j9 KO.o;have zv:=ae (HO.o.ext Z);clear Z HV;go_wp2_with fail;clear c0
 go_loopg [4,6] n (fun gk o i wr=>∃(k:Nat) (a1:j6) (J p1:Nat),b7 (gk+k=n)/\i=.int .i64 (k:Int)/\o=.slice a1 J p1/\b7 (o0 wr (w.heap.size+1) (.slice a1 J p1) (Gm (JV n) V (cK (n:Int)) k))/\b7 (Ext W wr))
 case atStart=>exact⟨0,_,_,_,ae e7,rfl,rfl,ae (by rw[qd];exact zv.o),yZ⟩
 case round =>
  obtain⟨g1,o7⟩:=b9 gk;subst o7;obtain⟨o6,o5⟩:=b9 wr;subst o5;obtain⟨k,a1,J,p1,HK,rfl,rfl,A5,I⟩:=hrel;have hsz:=I.o.size;rw[Ai.o]at hsz;have c1:=I.o.j9 Mb.o;have Hp:=ae (HI.o.ext I.o);by_cases hlt:k<n
  ·have zU:r9 (k:Int) 0 4=true:=by unfold r9;simp;omega
   have HC:=ae (Xr k e7);have hp:=fi k;have Ok:=gj k e7;go_wp2_with fail
   go_loopg [7,8] m (fun gk t i wr=>∃j:Nat,b7 (gk+j=m)/\i=.int .i64 (j:Int)/\t=.int .i64 (Ex (JV n) V k j)/\b7 (Ext o6 wr))
   case atStart=>exact⟨0,ae e7,rfl,rfl,ae (Ext.refl _)⟩
   case round =>
    obtain⟨g2,Am⟩:=b9 gk;subst Am;obtain⟨wr2,zx⟩:=b9 wr;subst zx;obtain⟨j,HJ,rfl,ht,G⟩:=hrel;obtain⟨T,hT⟩:=b9 (Ex (JV n) V k j);have Zj:=pB FT.o (tR n h5) k j;rw[<-hT]at ht Zj;subst ht;have HT:=ae hT;clear hT;have c1':=G.o.j9 c1;by_cases Ah:j<m
    ·have K:=ae (Hp.o.ext G.o);obtain⟨b,off,he,hc⟩:=K.o.at Ah;have N1:=eO FT.o j;obtain⟨v1,An⟩:=b9 (V[j]?.getD 0);rw[<-An]at hc N1;have HY1:=ae An;clear An;subst he;have hb:=el (j:Int) k e7 e7;cases hbit:bit (j:Int) k
     ·rw[hbit]at hb;have HB:=ae hbit;have DC:=ae hb;have hu:=SD h5 (by rw[<-HM.o];exact Ah) hlt hbit;obtain⟨u,Q⟩:∃u:Nat,u=j+2^k:=⟨_,rfl⟩;have Yb:(j:Int)+2^k=(u:Int):=by rw[Q];simp
      have hum:u<m:=by rw[HM.o,Q];exact hu
      obtain⟨b2,off2,Y2,CY⟩:=K.o.at hum;simp only[bA,mq,zz]at Y2;obtain⟨rfl,rfl⟩:=Y2;have X':=eO FT.o u;obtain⟨v2,EU⟩:=b9 (V[u]?.getD 0);rw[<-EU]at CY X';have ZJ:=ae EU;have HU:=ae Q;have EX:=vq j;obtain⟨q,hq⟩:=b9 (GM j);rw[<-hq]at EX;have HQ:=ae hq;have FM:=Xp (n:=n) EX;have OD:=rT (n:=(q:Int)) e7;have Mn:=rT (n:=(n:Int)-(q:Int)-1) e7;have YG:=px (x:=cK (q:Int)) (y:=cK ((n:Int)-(q:Int)-1)) e7 e7 e7 e7;obtain⟨Wt,U6⟩:=b9 (JV n q);have U:=tR n h5 q;rw[<-U6]at U FM;have K0:=px U.1 U.2 (y:=v2-v1) e7 e7;obtain⟨X,hX⟩:=b9 (Wt*(v2-v1));rw[<-hX]at K0;have DL:=ae hX;have HWt:=ae U6;have e0:IntKind.i64.wrap (cK (q:Int)*cK ((n:Int)-(q:Int)-1))=Wt:=by rw[<-FM,cn];omega
      have e1:IntKind.i64.wrap (v2-v1)=v2-v1:=by rw[cn];omega
      have e2:IntKind.i64.wrap (Wt*(v2-v1))=X:=by rw[<-hX,cn];omega
      have e3:IntKind.i64.wrap ((j:Int)+2^k)=(u:Int):=by rw[Yb,cn];omega
      have e4:IntKind.i64.wrap (T+X)=T+X:=by rw[cn];omega
      have e5:IntKind.i64.wrap ((n:Int)-(q:Int))=(n:Int)-(q:Int):=by rw[cn];omega
      have e6:IntKind.i64.wrap ((n:Int)-(q:Int)-1)=(n:Int)-(q:Int)-1:=by rw[cn];omega
      have Ya:u<=32:=by omega
      have HPOP:=ae (show(Ij j 5:Int)=(q:Int)by rw[hq];rfl);clear EU hbit hu Yb Q hb N1 X' Zj hX U6 U K0 YG OD Mn FM hq hp Ok;go_wp2_with (first|(go_at_call 40;refine(cw _ _ _ e7).mono ?_;rw[DC.o];rintro e w' ⟨rfl,rfl⟩)|(go_at_call 41;refine(kw j e7 _).mono ?_;rw[HPOP.o];rintro e w' ⟨rfl,rfl⟩))
      go_quiet ((first|(go_at_call 42;exact aU (jS _ e7 _))|(go_at_call 43;exact aU (HC.o _))))
      go_wp2
      go_roundg (g2-1)
      case measure=>have:=HJ.o;omega
      case rel=>exact⟨j+1,ae (j1 HJ.o),by go_num,by unfold Ex;rw[HB.o,<-HT.o,<-HU.o,<-ZJ.o,<-HY1.o,<-HQ.o,<-HWt.o,<-DL.o];simp[go_sem,e4],ae (G.o.trans (Bj.ext ⟨_,rfl⟩))⟩
     ·rw[hbit]at hb;have HB:=ae hbit;have DC:=ae hb;clear hbit hb;go_wp2_with (first|(go_at_call 40;refine(cw _ _ _ e7).mono ?_;rw[DC.o];rintro e w' ⟨rfl,rfl⟩))
      go_roundg (g2-1)
      case measure=>have:=HJ.o;omega
      case rel=>exact⟨j+1,ae (j1 HJ.o),by go_num,by unfold Ex;rw[HB.o,<-HT.o];simp,G⟩
    ·have Ga:m=j:=by have:=HJ.o;omega
     subst Ga;obtain⟨p,q,ok,zR⟩:∃p q ok,aI T (cK (n:Int))=((p,q),ok):=⟨_,_,_,rfl⟩;have Ay:=ae zR;have KC:=ae (I.o.trans G.o);have zi:=ae (A5.o.ext G.o);have D4:=KC.o.size;rw[Ai.o]at D4;have C0:=ae (fun(w':World)=>lT T (cK (n:Int)) w');rw[Ay.o]at C0;have Qj:(n:Int)<=5:=by omega
     clear zR
     go_wp2_with (first
      | (go_at_call 42;refine(jS _ Qj _).mono ?_;rintro e w' ⟨rfl,rfl⟩)
      | (go_at_call 44;refine(C0.o _).mono ?_;rintro e w3 ⟨rfl,O⟩;have X3:=ae (KC.o.trans O);have Ar:=ae (zi.o.ext O);have Fs:=O.size;clear O)
      | (at_builtin;refine aM rfl _ _ rfl (w.heap.size+1) (.slice a1 J p1) _ rfl ((Ar.o.ext (Ext.alloc _ _)).ext (Ext.alloc _ _)) _ 1 _ [(p,q)] rfl (Rats.one' _ _ _ _ _ e8) (by rw[mR];omega) (by simp;omega) ?_;intro v2 w4 ho hg k9;have X5:=ae (ak (X3.o.trans ((Ext.alloc _ _).trans (Ext.alloc _ _))) hg (fun j hj=>by rw[Ai.o];exact(Ar.o.lt j hj).1));obtain⟨a2,n2,c2,rfl,Gu⟩:=ho.var;have zW:=ae ho;clear ho hg k9))
     go_roundg (g1-1)
     case measure=>have:=HK.o;omega
     case rel =>
      refine⟨k+1,a2,n2,c2,ae (j1 HK.o),by go_num,rfl,ae ?_,X5⟩;have:=zW.o;rw[qb,R8,HL.o,<-HT.o,Ay.o];exact this
  ·have zQ:n=k:=by have:=HK.o;omega
   subst zQ
   go_wp2
   refine bR (v:=.tuple #[.slice a1 J p1,.bool true]) (by simp[results,Tryz.results17,go_sem]) rfl ⟨⟨_,rfl,by unfold gL;rw[nN _ BV.o,CI];exact A5.o.mono e7⟩,HX.o.trans I.o⟩
theorem oM{α:Type}{l:List α}(h:l≠[]):0<l.length:=List.length_pos_iff.2 h
def cv(c:UInt8):Bool:=decide (48<=c.toNat/\c.toNat<=57)
def zS(l:List UInt8):Nat:=l.foldl (fun n c=>10*n+(c.toNat-48)) 0
theorem iq(l:List UInt8)(c:UInt8):zS (l++[c])=10*zS l+(c.toNat-48):=by unfold zS;rw[abB];rfl
theorem vI:∀l:List UInt8,l.all cv=true->zS l<10^l.length:=by
 intro l
 induction hl:l.length generalizing l with
 | zero=>intro _;obtain rfl:=Lj hl;decide
 | succ n ih =>
   intro h;obtain⟨m,c,rfl⟩:∃m c,l=m++[c]:=⟨l.dropLast,l.getLast (by intro e;rw[e]at hl;cases hl),(abI _).symm⟩;rw[pk]at hl;rw[RN,xf]at h;have h1:=ih m (by simpa using hl) h.1;have h2:cv c=true:=by simpa using h.2
   unfold cv at h2;have h2:=EE h2;rw[iq,Nat.pow_succ];omega
theorem Pj(h:cv c=true):UInt8.ofNat (48+(c.toNat-48))=c:=by
 unfold cv at h;have h:=EE h;rw[show 48+(c.toNat-48)=c.toNat by omega];exact UInt8.ofNat_toNat
def oe(l:List UInt8):Prop:=l.length=1∨l[0]?≠some 48
theorem MN:∀{l:List UInt8},l.all cv=true->l≠[]->l[0]?≠some 48->1<=zS l:=by
 intro l
 induction hl:l.length generalizing l with
 | zero=>intro _ h _;exact absurd (Lj hl) h
 | succ n ih =>
   intro h _ h0;obtain⟨m,c,rfl⟩:∃m c,l=m++[c]:=⟨l.dropLast,l.getLast (by intro e;rw[e]at hl;cases hl),(abI _).symm⟩;rw[pk]at hl;rw[RN,xf]at h;rw[iq];by_cases hm:m=[]
   ·subst hm;have h2:cv c=true:=by simpa using h.2
    unfold cv at h2;have h2:=EE h2
    have:c.toNat≠48:=fun e=>h0 (by
     have:c=48:=abV.1 (by rw[e];rfl)
     rw[this];rfl)
    omega
   ·have:=ih (l:=m) (by simpa using hl) h.1 hm (by
     rw[Ep (oM hm)]at h0;exact h0)
    omega
theorem pC:∀{l:List UInt8},l.all cv=true->l≠[]->oe l->Lib.decDigits (zS l)=l:=by
 intro l
 induction hl:l.length generalizing l with
 | zero=>intro _ h _;exact absurd (Lj hl) h
 | succ n ih =>
   intro h _ hc;obtain⟨m,c,rfl⟩:∃m c,l=m++[c]:=⟨l.dropLast,l.getLast (by intro e;rw[e]at hl;cases hl),(abI _).symm⟩;rw[pk]at hl;rw[RN,xf]at h;have h2:cv c=true:=by simpa using h.2
   have hb:=Pj h2;unfold cv at h2;have h2:=EE h2;rw[iq];by_cases hm:m=[]
   ·subst hm;rw[show zS []=0 from rfl,Lib.decDigits,dif_pos e7];rw[show 48+(10*0+(c.toNat-48))=48+(c.toNat-48)by omega,hb];rfl
   ·have h0:m[0]?≠some 48:=by
     rcases hc with h3|h3
     ·rw[pk,abb]at h3;have:=oM hm;omega
     ·rw[Ep (oM hm)]at h3;exact h3
    have hp:=MN h.1 hm h0;rw[Lib.decDigits,dif_neg e7,show(10*zS m+(c.toNat-48))/10=zS m by omega,show 48+(10*zS m+(c.toNat-48)) % 10=48+(c.toNat-48)by omega,hb,ih (l:=m) (by simpa using hl) h.1 hm (ach h0)]
theorem ic:∀n:Nat,oe (Lib.decDigits n)/\Lib.decDigits n≠[]
 | n=>by
   by_cases h:n<10
   ·rw[Lib.decDigits,dif_pos h];exact⟨aaJ rfl,by simp⟩
   ·rw[Lib.decDigits,dif_neg h];have ih:=ic (n/10);have G:=oM ih.2;refine⟨ach ?_,by simp⟩;rw[Ep G]
    rcases ih.1 with h1|h1
    ·-- one digit: not a zero
     by_cases h2:n/10<10
     ·rw[Lib.decDigits,dif_pos h2];intro e;simp only[Xm,bA]at e;have e2:=Jr UInt8.toNat e;rw[aaT]at e2;have:(48:UInt8).toNat=48:=rfl;omega
     ·rw[Lib.decDigits,dif_neg h2,pk,abb]at h1;have:=oM (ic (n/10/10)).2;omega
    ·exact h1
def aw(l:List UInt8)(most:Nat):Int:=if(1<=l.length/\l.length<=most)/\(l.length<=1∨l[0]?≠some 48)/\l.all cv=true then(zS l:Int) else -1
def dS(l:List UInt8):Option Int :=
 if l[0]?=some 45 then(if 1<=aw (l.drop 1) 12 then some (-(aw (l.drop 1) 12)) else none) else if 0<=aw l 12 then some (aw l 12) else none
def fq(l:List UInt8)(most:Nat):Option Int :=
 if(1<=(if l[0]?=some 45 then l.drop 1 else l).length/\(if l[0]?=some 45 then l.drop 1 else l).length<=most)/\(if l[0]?=some 45 then l.drop 1 else l).all cv=true/\Lib.itoa (if l[0]?=some 45 then -(zS (l.drop 1):Int) else(zS l:Int))=l
 then some (if l[0]?=some 45 then -(zS (l.drop 1):Int) else(zS l:Int)) else none
theorem OF(h:l[0]?=some 45):l=45::l.drop 1:=by
 cases l with
 | nil=>cases h
 | cons c l=>simp only[Xm,bA]at h;rw[h];rfl
theorem kS(n:Nat):(Lib.decDigits n)[0]?≠some 45:=by
 intro h;have Ap:∀m:Nat,∀c∈Lib.decDigits m,48<=c.toNat:=by
  intro m
  induction m using Nat.strongRecOn with
  | _ m ih =>
    intro c hc;by_cases h:m<10
    ·rw[Lib.decDigits,dif_pos h,aav]at hc;rw[hc,aaT];omega
    ·rw[Lib.decDigits,dif_neg h,aa',aav]at hc
     rcases hc with hc|hc
     ·exact ih (m/10) e7 c hc
     ·rw[hc,aaT];omega
 have:=Ap n 45 (aaf h);exact absurd this (by decide)
theorem yx(l:List UInt8):fq l 12=dS l:=by
 unfold fq dS;by_cases hm:l[0]?=some 45
 ·simp only[hI hm];have hl:=OF hm;obtain⟨t,ht⟩:=b9 (l.drop 1);rw[<-ht]at hl⊢;by_cases hd:(1<=t.length/\t.length<=12)/\t.all cv=true
  ·obtain⟨⟨h1,h2⟩,h3⟩:=hd;have hne:t≠[]:=fun e=>by rw[e]at h1;simp at h1
   by_cases hc:t.length<=1∨t[0]?≠some 48
   ·have hr:aw t 12=(zS t:Int):=by unfold aw;rw[hI ⟨⟨h1,h2⟩,hc,h3⟩]
    rw[hr];have OO:oe t:=by
     rcases hc with hc|hc
     ·exact aaJ e7
     ·exact ach hc
    by_cases h0:1<=zS t
    ·have h6:Lib.itoa (-(zS t:Int))=l:=by
      unfold Lib.itoa;rw[hI e7,Int.natAbs_neg,Int.natAbs_natCast,pC h3 hne OO,<-hl]
     rw[hI (show(1:Int)<=(zS t:Int)by omega),hI ⟨⟨h1,h2⟩,h3,h6⟩]
    ·rw[hD (show¬(1:Int)<=(zS t:Int)by omega),hD];rintro⟨_,_,h5⟩;unfold Lib.itoa at h5;rw[hD e7]at h5;rw[hl]at h5;have:=kS (-(zS t:Int)).toNat;rw[h5]at this;exact this rfl
   ·have hr:aw t 12=-1:=by unfold aw;rw[hD (fun h=>hc h.2.1)]
    rw[hr,hD (show¬(1:Int)<=-1 by omega),hD];rintro⟨_,_,h5⟩;unfold Lib.itoa at h5
    split at h5
    ·rw[Int.natAbs_neg,Int.natAbs_natCast,hl,List.cons.injEq]at h5;have:=(ic (zS t)).1;rw[h5.2]at this
     rcases this with h6|h6
     ·exact hc (aaJ e7)
     ·exact hc (ach h6)
    ·rw[hl]at h5;have:=kS (-(zS t:Int)).toNat;rw[h5]at this;exact this rfl
  ·have hr:aw t 12=-1:=by unfold aw;rw[hD (fun h=>hd ⟨h.1,h.2.2⟩)]
   rw[hr,hD (show¬(1:Int)<=-1 by omega),hD (fun h=>hd ⟨h.1,h.2.1⟩)]
 ·simp only[hD hm];by_cases hd:(1<=l.length/\l.length<=12)/\l.all cv=true
  ·obtain⟨⟨h1,h2⟩,h3⟩:=hd;have hne:l≠[]:=fun e=>by rw[e]at h1;simp at h1
   have RE:Lib.itoa (zS l:Int)=Lib.decDigits (zS l):=by unfold Lib.itoa;rw[hD e7,CI]
   rw[RE];by_cases hc:l.length<=1∨l[0]?≠some 48
   ·have hr:aw l 12=(zS l:Int):=by unfold aw;rw[hI ⟨⟨h1,h2⟩,hc,h3⟩]
    have OO:oe l:=by
     rcases hc with hc|hc
     ·exact aaJ e7
     ·exact ach hc
    rw[hr,hI (show(0:Int)<=(zS l:Int)by omega),hI ⟨⟨h1,h2⟩,h3,pC h3 hne OO⟩]
   ·have hr:aw l 12=-1:=by unfold aw;rw[hD (fun h=>hc h.2.1)]
    rw[hr,hD (show¬(0:Int)<=-1 by omega),hD];rintro⟨_,_,h5⟩;have:=(ic (zS l)).1;rw[h5]at this
    rcases this with h6|h6
    ·exact hc (aaJ e7)
    ·exact hc (ach h6)
  ·have hr:aw l 12=-1:=by unfold aw;rw[hD (fun h=>hd ⟨h.1,h.2.2⟩)]
   rw[hr,hD (show¬(0:Int)<=-1 by omega),hD (fun h=>hd ⟨h.1,h.2.1⟩)]
theorem nw(l:List UInt8):(fq l 6).bind (fun n=>if n<0 then none else some n)=if 0<=aw l 6 then some (aw l 6) else none:=by
 unfold fq;by_cases hm:l[0]?=some 45
 ·simp only[hI hm];have hr:aw l 6=-1:=by
   unfold aw;rw[hD];rintro⟨_,_,h3⟩;rw[OF hm,ac5,xf]at h3;exact absurd h3.1 (by decide)
  rw[hr,hD (show¬(0:Int)<=-1 by omega)]
  split
  ·next h =>
   rw[G3];by_cases h0:-(zS (l.drop 1):Int)<0
   ·rw[hI h0]
   ·exfalso
    have h5:=h.2.2;unfold Lib.itoa at h5;rw[hD h0]at h5;have:=kS (-(zS (l.drop 1):Int)).toNat;rw[h5]at this;exact this hm
  ·rfl
 ·simp only[hD hm];by_cases hd:(1<=l.length/\l.length<=6)/\l.all cv=true
  ·obtain⟨⟨h1,h2⟩,h3⟩:=hd;have hne:l≠[]:=fun e=>by rw[e]at h1;simp at h1
   have RE:Lib.itoa (zS l:Int)=Lib.decDigits (zS l):=by unfold Lib.itoa;rw[hD e7,CI]
   rw[RE];by_cases hc:l.length<=1∨l[0]?≠some 48
   ·have hr:aw l 6=(zS l:Int):=by unfold aw;rw[hI ⟨⟨h1,h2⟩,hc,h3⟩]
    have OO:oe l:=by
     rcases hc with hc|hc
     ·exact aaJ e7
     ·exact ach hc
    rw[hr,hI (show(0:Int)<=(zS l:Int)by omega),hI ⟨⟨h1,h2⟩,h3,pC h3 hne OO⟩,G3,hD e7]
   ·have hr:aw l 6=-1:=by unfold aw;rw[hD (fun h=>hc h.2.1)]
    rw[hr,hD (show¬(0:Int)<=-1 by omega),hD]
    ·rfl
    ·rintro⟨_,_,h5⟩;have:=(ic (zS l)).1;rw[h5]at this
     rcases this with h6|h6
     ·exact hc (aaJ e7)
     ·exact hc (ach h6)
  ·have hr:aw l 6=-1:=by unfold aw;rw[hD (fun h=>hd ⟨h.1,h.2.2⟩)]
   rw[hr,hD (show¬(0:Int)<=-1 by omega),hD (fun h=>hd ⟨h.1,h.2.1⟩)]
   rfl
def AF(c:UInt8)(l:List UInt8):Nat->List (List UInt8)×Nat
 | 0=>([],0)
 | i+1=>if l[i]?.getD 0=c then((AF c l i).1++[(l.take i).drop (AF c l i).2],i+1) else AF c l i
def Aa(c:UInt8)(l:List UInt8):List (List UInt8):=(AF c l l.length).1++[l.drop (AF c l l.length).2]
theorem lV(c:UInt8)(l:List UInt8):∀i,(AF c l i).2<=i/\(AF c l i).1.length<=i
 | 0=>⟨ao _,ao _⟩
 | i+1=>by
   have ih:=lV c l i;unfold AF
   split
   ·refine⟨ao _,?_⟩;rw[pk,abb];omega
   ·omega
theorem nQ(c:UInt8)(l:List UInt8):1<=(Aa c l).length:=by unfold Aa;rw[pk,abb];omega
theorem lG{c:UInt8}{l:List UInt8}:∀i,i<=l.length->(∀k,k<i->l[k]?.getD 0≠c)->AF c l i=([],0)
 | 0,_,_=>rfl
 | i+1,hi,h=>by
   unfold AF;rw[hD (h i e7)];exact lG i e7 fun k hk=>h k e7
theorem nO(h:c∉l):Aa c l=[l]:=by
 unfold Aa;rw[lG l.length (ao _) fun k hk e=>h (by rw[<-e,bk hk,l'];exact vl hk)]
 rfl
theorem tV{c:UInt8}{a b:List UInt8}(h:c∉a):∀j,j<=b.length->AF c (a++c::b) (a.length+1+j)=(a::(AF c b j).1,a.length+1+(AF c b j).2)
 | 0,_=>by
   have hn:AF c (a++c::b) a.length=([],0):=lG a.length (by rw[pk];omega) fun k hk e=>h (by
    rw[Ep hk,bk hk,l']at e
    rw[<-e];exact vl hk)
   show AF c (a++c::b) (a.length+1)=_;unfold AF;rw[hI (by rw[Vy (ao _)];simp),hn];simp
 | j+1,hj=>by
   have ih:=tV (a:=a) (b:=b) h j e7;rw[show a.length+1+(j+1)=(a.length+1+j)+1 by omega];unfold AF;have e:(a++c::b)[a.length+1+j]?.getD 0=b[j]?.getD 0:=by
    rw[Vy e7,show a.length+1+j-a.length=j+1 by omega,aae]
   rw[e,ih];by_cases hc:b[j]?.getD 0=c
   ·rw[hI hc,hI hc];have e2:((a++c::b).take (a.length+1+j)).drop (a.length+1+(AF c b j).2)=(b.take j).drop (AF c b j).2:=by
     rw[show a.length+1+j=a.length+(1+j)by omega,List.take_length_add_append,show a.length+1+(AF c b j).2=a.length+(1+(AF c b j).2)by omega,List.drop_length_add_append,show 1+j=j+1 by omega,List.take_succ_cons,show 1+(AF c b j).2=(AF c b j).2+1 by omega,List.drop_succ_cons]
    simp only;rw[e2,show a.length+1+(j+1)=a.length+1+j+1 by omega]
    rfl
   ·rw[hD hc,hD hc]
theorem tT{a b:List UInt8}(h:c∉a):Aa c (a++c::b)=a::Aa c b:=by
 unfold Aa;have hl:(a++c::b).length=a.length+1+b.length:=by rw[pk,OX];omega
 rw[hl,tV h b.length (ao _)];simp only[aaE,List.cons.injEq,acq];rw[show a.length+1+(AF c b b.length).2=a.length+((AF c b b.length).2+1)by omega,List.drop_length_add_append,List.drop_succ_cons]
theorem kV{c:UInt8}:∀{l:List UInt8},c∈l->∃a b,l=a++c::b/\c∉a
 | [],h=>by cases h
 | x::l,h=>by
   by_cases e:x=c
   ·exact⟨[],l,by rw[e];rfl,by simp⟩
   ·have hl:c∈l:=by
     rcases aaL.1 h with h|h
     ·exact absurd h.symm e
     ·exact h
    obtain⟨a,b,e1,e2⟩:=kV hl;refine⟨x::a,b,by rw[e1];rfl,fun h2=>?_⟩
    rcases aaL.1 h2 with h2|h2
    ·exact e h2.symm
    ·exact e2 h2
theorem MV(h:(Aa c l).length=1):c∉l:=fun hm=>by
 obtain⟨a,b,rfl,hn⟩:=kV hm;rw[tT hn,OX]at h;have:=nQ c b;omega
def Ik:List UInt8:=[112,108,97,121,101,114,115]
def dq(l:List UInt8):Option Int:=if l.take 8=Ik++[32] then(if 0<=aw (l.drop 8) 6 then(if 1<=aw (l.drop 8) 6/\aw (l.drop 8) 6<=5 then some (aw (l.drop 8) 6) else none) else none) else none
def rV(l:List UInt8):Option Int :=
 if(Aa 32 l).length=2/\(Aa 32 l)[0]?.getD []=Ik then((fq ((Aa 32 l)[1]?.getD []) 6).bind fun n=>if n<0 then none else some n).bind fun n=>if 1<=n/\n<=5 then some n else none else none
theorem uv(h:0<=aw l m):(32:UInt8)∉l:=fun hm=>by
 unfold aw at h
 split at h
 ·next g=>exact absurd (Di.1 g.2.2 32 hm) (by decide)
 ·omega
theorem vZ(l:List UInt8):rV l=dq l:=by
 unfold rV dq;by_cases hm:(32:UInt8)∈l
 ·obtain⟨a,b,rfl,hn⟩:=kV hm;rw[tT hn];simp only[OX,Xm,l',aae];by_cases ha:a=Ik
  ·subst ha;have e1:(Ik++32::b).take 8=Ik++[32]:=rfl;have e2:(Ik++32::b).drop 8=b:=rfl;rw[e1,e2,hI rfl];by_cases hb:(Aa 32 b).length=1
   ·have G:=MV hb;rw[hI ⟨by omega,rfl⟩,nO G];simp only[Xm,l'];rw[nw]
    split
    ·rfl
    ·rfl
   ·rw[hD (fun h=>hb e7),hD];intro h;exact hb (by rw[nO (uv h)];rfl)
  ·rw[hD (fun h=>ha h.2),hD];intro h;refine ha ?_;have hlen:a.length=7:=by
    have hk:∀k,k<8->(a++32::b)[k]?=(Ik++[32])[k]?:=fun k hk=>by rw[<-h,ab7 hk]
    refine aaU fun hne=>?_
    by_cases hlt:a.length<7
    ·have h1:=hk a.length e7;rw[Vy (ao _),ab2,Xm]at h1;have:∀k:Fin 7,(Ik++[32])[k.val]?≠some 32:=by decide
     exact this ⟨a.length,hlt⟩ h1.symm
    ·have h1:=hk 7 e7;rw[Ep e7,bk e7]at h1;have h2:a[7]' e7=32:=by
      have:(Ik++[32])[7]?=some 32:=rfl;rw[this]at h1;exact Og h1
     exact hn (by rw[<-h2];exact vl _)
   have:=Jr (List.take 7) h;rw[aa3,show min 7 8=7 by decide,<-hlen,List.take_left]at this;rw[this,hlen];rfl
 ·rw[nO hm,hD (fun h=>by simp at h),hD];intro h;refine hm ?_;have:(32:UInt8)∈l.take 8:=by rw[h];decide
  exact acA this
open Go.Shelf
def sL:Go.Shelf.Ren:=⟨fun|171=>63|243=>119|246=>184|283=>225|284=>226|285=>227|286=>228|129=>245|317=>244|318=>246|319=>247|320=>248|337=>262|338=>263|n=>n,fun|3=>3|9=>9|2=>2|4=>4|171=>210|0=>0|53=>179|37=>26|5=>5|173=>212|212=>219|51=>177|20=>20|213=>220|46=>134|232=>229|233=>230|n=>n,fun|17=>0|18=>2|19=>3|n=>n⟩
theorem sK:Go.Proofs.LaysM.n171 Tryz.prog sL:={
 mixed:=by kernel_rfl
 f129:=Tryz.func245.trans (Jr some e9)
 f171:=Tryz.func63.trans (Jr some e9)
 f243:=Tryz.func119.trans (Jr some e9)
 f246:=Tryz.func184.trans (Jr some e9)
 f283:=Tryz.func225.trans (Jr some e9)
 f284:=Tryz.func226.trans (Jr some e9)
 f285:=Tryz.func227.trans (Jr some e9)
 f286:=Tryz.func228.trans (Jr some e9)
 f317:=Tryz.func244.trans (Jr some e9)
 f318:=Tryz.func246.trans (Jr some e9)
 f319:=Tryz.func247.trans (Jr some e9)
 f320:=Tryz.func248.trans (Jr some e9)
 f337:=Tryz.func262.trans (Jr some e9)
 f338:=Tryz.func263.trans (Jr some e9)
 t0:=Tryz.underlying0
 a0:=Tryz.isAgg0
 z0:=Tryz.sizeOf0
 v0:=Tryz.zeroValue0
 t2:=Tryz.underlying2
 a2:=Tryz.isAgg2
 z2:=Tryz.sizeOf2
 v2:=Tryz.zeroValue2
 t3:=abR
 a3:=adR
 z3:=adu
 v3:=acK
 t4:=abr
 a4:=adS
 z4:=adv
 v4:=acL
 t5:=aa4
 a5:=Tryz.isAgg5
 z5:=Tryz.sizeOf5
 v5:=Tryz.zeroValue5
 t9:=aaq
 a9:=adT
 z9:=adw
 v9:=acM
 t20:=Tryz.underlying20
 a20:=Tryz.isAgg20
 z20:=Tryz.sizeOf20
 v20:=Tryz.zeroValue20
 t37:=aan
 a37:=Tryz.isAgg26
 z37:=Tryz.sizeOf26
 v37:=Tryz.zeroValue26
 t46:=Tryz.underlying134
 a46:=Tryz.isAgg134
 z46:=Tryz.sizeOf134
 v46:=Tryz.zeroValue134
 t51:=Tryz.underlying177
 a51:=Tryz.isAgg177
 z51:=Tryz.sizeOf177
 v51:=Tryz.zeroValue177
 t53:=Tryz.underlying179
 a53:=Tryz.isAgg179
 z53:=Tryz.sizeOf179
 v53:=Tryz.zeroValue179
 t171:=Tryz.underlying210
 a171:=Tryz.isAgg210
 z171:=Tryz.sizeOf210
 v171:=Tryz.zeroValue210
 t173:=Tryz.underlying212
 a173:=Tryz.isAgg212
 z173:=Tryz.sizeOf212
 v173:=Tryz.zeroValue212
 t212:=Tryz.underlying219
 a212:=Tryz.isAgg219
 z212:=Tryz.sizeOf219
 v212:=Tryz.zeroValue219
 t213:=Tryz.underlying220
 a213:=Tryz.isAgg220
 z213:=Tryz.sizeOf220
 t232:=Tryz.underlying229
 a232:=Tryz.isAgg229
 z232:=Tryz.sizeOf229
 v232:=Tryz.zeroValue229
 t233:=Tryz.underlying230
 a233:=Tryz.isAgg230
 z233:=Tryz.sizeOf230
 v233:=Tryz.zeroValue230
 g17:=by kernel_rfl
 g18:=by kernel_rfl
 g19:=by kernel_rfl
 i0:=by kernel_rfl
 i2:=by kernel_rfl
 i3:=by kernel_rfl
 i4:=by kernel_rfl
 i5:=by kernel_rfl
 i9:=by kernel_rfl
 i20:=by kernel_rfl
 i37:=by kernel_rfl
 i46:=by kernel_rfl
 i51:=by kernel_rfl
 i53:=by kernel_rfl
 i171:=by kernel_rfl
 i173:=by kernel_rfl
 i212:=by kernel_rfl
 i232:=by kernel_rfl
 i233:=by kernel_rfl
 m17:=by kernel_rfl
 m18:=by kernel_rfl
 m19:=by kernel_rfl }
