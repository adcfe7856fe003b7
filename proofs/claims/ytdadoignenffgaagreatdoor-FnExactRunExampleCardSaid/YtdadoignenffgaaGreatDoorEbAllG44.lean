import Derived.Test.YtdadoignenffgaaGreatDoorEbAllG1
import Derived.Deep.Slices
import Derived.ProofKit
import Derived.OpenShut
import Derived.ShutString
import Derived.ChangeOld
import Derived.Lib.SmallJoins
import Derived.Test.YtdadoignenffgaaGreatDoorEbAllG33
import Derived.Test.YtdadoignenffgaaGreatDoorEbAllG3
import Derived.Test.YtdadoignenffgaaGreatDoorEbAllG10
import Derived.Test.YtdadoignenffgaaGreatDoorEbAllG35
import Derived.Test.YtdadoignenffgaaGreatDoorEbAllG37
import Derived.Test.YtdadoignenffgaaGreatDoorEbAllG58
set_option linter.unusedVariables false
set_option linter.unusedSimpArgs false
namespace Go.Proofs.YtdadoignenffgaaGreatDoor
open Go.ChangeShapes Go.WideShapes Go.ChangeAt Go.RowKit Go.Joins Go.Deep
section
variable{H:Type}{enc:TypeId×Value->H}{P:Program}{w:World}{base:Nat}{spare:Nat->Bool}{held:Bool}
theorem yk{α:Type}[Inhabited α]{E:Value->α->Prop}{t e:TypeId}{fuel:Nat}{v:Value}{x:DataW H×List MemPlace}(ht:P.underlying t=some (.slice e))(hc:P.cellsOf e=1)
 (J:∀n u y,DataW.trod enc P w base spare held n e [u]=some y->∃z,E u z)
 (h:DataW.trod enc P w base spare held fuel t [v]=some x) :
 ∃(a:j6) (n cap:Nat) (l:List α),v=.slice a n cap/\l.length=n/\n<=cap/\cap<=9223372036854775807/\∀k,k<n->∃b off,a=some ⟨b,off,none⟩/\∀k,k<n->∃u,w.cell? ⟨b,off+k,none⟩=some u/\E u (l[k]?.getD default):=by
 rcases open_slice1 ht hc h with⟨G,_⟩|⟨a,len,cap,m,n,V,D,Pl,G,_,hl,hm,Ot,_,hx⟩
 ·simp at G;exact⟨none,0,0,[],G,rfl,ao _,by omega,fun k hk=>absurd hk e7⟩
 ·simp at G;have hlen:len<=m:=by rw[Ot];split<;>omega
  obtain⟨f,hf⟩:=choose_lt (α:=α) (n:=len) (p:=fun i z=>E (V i) z) (fun i hi=>J n (V i) _ (hx i e7).2);refine⟨some a,len,cap,(List.range len).map f,G,by simp,hl,by simpa[maxLen]using hm,fun k hk=>?_⟩;obtain⟨b,off,spot⟩:=a;have h0:=(hx 0 e7).1;have I:spot=none:=by simpa[Addr.add]using World.cell?_spot h0
  subst I;refine⟨b,off,rfl,fun k hk=>⟨V k,?_,?_⟩⟩
  ·have h1:=(hx k e7).1;have ha:(⟨b,off,none⟩:Addr).add k=⟨b,off+k,none⟩:=by unfold Addr.add;split<;>simp_all
   rwa [ha]at h1
  ·have:((List.range len).map f)[k]?.getD default=f k:=by simp[hk]
   rw[this];exact hf k hk
end
set_option maxRecDepth 100000
open Go.RowKit
structure BS(w wr:World)(cb gb rb:Nat)(x:Int)(a:j6)(m cap:Nat)(V:j7):Prop where
 cur:D2 wr cb
 WL:wr.heap[gb]?=some (.cells #[.int .i64 x,.slice a m cap] 32 (0,0))
 Xt:wr.heap[rb]?=some (.cells #[.int .i64 0,.slice none 0 0] 32 (0,0))
 grown:w.grownBy wr (some cb)
 own:o4 wr w.heap.size (.slice a m cap) V
 apart:gb≠cb/\rb≠cb/\rb≠gb/\w.heap.size<=gb/\w.heap.size<=rb
 free:∀k,(Value.slice a m cap).ownBlock=some k->k≠gb/\k≠rb
end Go.Proofs.YtdadoignenffgaaGreatDoor
namespace Go.Proofs.YtdadoignenffgaaGreatDoor
set_option maxRecDepth 100000
open Go.RowKit
abbrev Bx:=Nat->Option (Array Value×TypeId)
def Bx.nil:Bx:=fun _=>none
def Bx.upd(f:Bx)(b:Nat)(p:Array Value×TypeId):Bx:=fun k=>if k=b then some p else f k
structure Bxs(w wr:World)(cb:Nat)(f:Bx):Prop where
 cur:D2 wr cb
 grown:w.grownBy wr (some cb)
 box:∀b p,f b=some p->wr.heap[b]?=some (.cells p.1 p.2 (0,0))/\b≠cb/\w.heap.size<=b
 dry:∀b p,f b=some p->∀(j:Nat) (y:Int),p.1[j]?≠some (Value.int .u8 y)
section
variable{w wr w':World}{cb b:Nat}{f:Bx}{p:Array Value×TypeId}
end
open Go.ChangeShapes Go.WideShapes Go.ChangeAt Go.RowKit Go.Joins Go.Deep
section
variable{H:Type}{enc:TypeId×Value->H}{P:Program}{w:World}{base:Nat}{spare:Nat->Bool}{held:Bool}
theorem wf_u8{n:Int}(h:(Lit.int .u8 n).wf=true):0<=n/\n<=255:=by
 simp only[Lit.wf,xf,sw]at h;have h1:IntKind.u8.min=0:=by decide
 have h2:IntKind.u8.max=255:=by decide
 omega
end
end Go.Proofs.YtdadoignenffgaaGreatDoor
namespace Go.Proofs.YtdadoignenffgaaGreatDoor
open Go.ChangeShapes Go.WideShapes Go.ChangeAt Go.RowKit Go.Joins Go.Deep
section
variable{H:Type}{enc:TypeId×Value->H}{P:Program}{w:World}{base:Nat}{spare:Nat->Bool}{held:Bool}
theorem wG{t e:TypeId}{fuel:Nat}{v:Value}{x:DataW H×List MemPlace}(ht:P.underlying t=some (.slice e))(he:P.underlying e=some (.int .u8))(hc:P.cellsOf e=1)
 (h:DataW.trod enc P w base spare held fuel t [v]=some x):∃a n cap,v=.slice a n cap/\eS w a n cap:=by
 obtain⟨a,n,cap,l,hv,hl,h1,h2,h3⟩:=yk (E:=fun u z=>u=.int .u8 z/\0<=z/\z<=255) ht hc (fun n u y hy=>by
  obtain⟨z,hz,_,wf⟩:=DataW.trod_int he hy
  exact⟨z,by simpa using hz,wf_u8 wf⟩) h
 refine⟨a,n,cap,hv,⟨h1,h2,fun k hk=>?_⟩⟩;obtain⟨b,off,ha,hc⟩:=h3 k hk;refine⟨b,off,ha,fun k hk=>?_⟩;obtain⟨u,h4,h5,h6⟩:=hc k hk;exact⟨_,by rw[h4,h5],h6⟩
end
end Go.Proofs.YtdadoignenffgaaGreatDoor
namespace Go.Proofs.YtdadoignenffgaaGreatDoor
variable{w:World}{a:j6}{n:Nat}
set_option maxHeartbeats 16000000
set_option maxRecDepth 100000
open Go.RowKit
theorem Na{cb:Nat}(h:D2 w cb){cap:Nat}{L:List (List UInt8)}(hl:BU zH w a n cap L)(hn:1<=n)(hne:∀b off,a=some ⟨b,off,none⟩->b≠cb):
 Calls Tryz.prog 154 #[.pointer (some ⟨cb,0,none⟩),.slice a n cap] w fun e w'=>(∃x,x∈L/\e=.returned (.string (bs x)))/\D2 w' cb/\w.grownBy w' (some cb):=by
 have l8:=hl.l8;have l9:=hl.l9;have H:=ae (ek h (n:Int) e7);have HL:=ae hl;have HN:=ae hne;clear h hl hne;go_enter Tryz.func154,Tryz.ntmps154
 go_wp2_with fail;refine H.o.mono ?_;rintro e w1 ⟨⟨x,rfl,y9,zK⟩,hc,hg⟩;obtain⟨k,rfl⟩:∃k:Nat,x=k:=⟨x.toNat,by omega⟩;have hk:k<n:=by omega
 have CX:(k:Int)<(n:Int):=by omega
 obtain⟨b,off,y,rfl,hy,_⟩:=HL.o.at hk;have G:=dH HL.o hy;have UX:w1.cell? ⟨b,off+k,none⟩=some (.string (bs y)) :=
  (fY (hg.block b (Kq _ _ G) (fun e=>HN.o b off rfl (Og e))) _).trans G
 have HC:=ae hc;have HG:=ae hg;have HM:=ae (aaf hy);clear hc hg G hy;go_wp2_with fail;go_ret;exact⟨⟨y,HM.o,rfl⟩,HC.o,HG.o⟩
theorem wV{cb:Nat}(h:D2 w cb)(t:List UInt8)(ht:t.length<=1000000){cap:Nat}{L:List (List UInt8)}(hl:BU zH w a n cap L)(hn:1<=n)(hne:∀b off,a=some ⟨b,off,none⟩->b≠cb)(hL:∀x∈L,x.length<=20):
 Calls Tryz.prog 91 #[.pointer (some ⟨cb,0,none⟩),.string (bs t),.slice a n cap] w fun e w'=>(∃u:List UInt8,e=.returned (.string (bs u))/\u.length<=1000020)/\D2 w' cb/\w.grownBy w' (some cb):=by
 have l8:=hl.l8;have l9:=hl.l9;obtain⟨I,O⟩:=b9 (bs t);have Uk:I.size=t.length:=by rw[O,aW]
 have HX:=ae (show∀a b,I.extract a b=bs ((t.take b).drop a)by subst O;exact fun a b=>od t a b);have H7:=ae O;have GH:=ae (show t.length<=1000000/\I.size=t.length from⟨ht,Uk⟩);have hsz:I.size<=1000000:=by omega
 have WB:=h.lt;have H:=ae (ek h ((I.size:Int)+1) e7);have HL:=ae hl;have HN:=ae hne;have AO:=ae hL
 have BE:=ae (show∀w':World,w.grownBy w' (some cb)->BU zH w' a n cap L from fun w' hg=>⟨hl.hlen,hl.l8,hl.l9,fun k hk=>by
  obtain⟨b,off,e,hc⟩:=hl.cell k hk;refine⟨b,off,e,fun k x j v h1 h2=>?_⟩;have h3:=hc k x j v h1 h2
  exact(fY (hg.block b (Kq _ _ h3) (fun e2=>hne b off e (Og e2))) _).trans h3⟩)
 rw[<-O];clear h hl hne O Uk hL;go_enter Tryz.func91,Tryz.ntmps91
 go_wp2_with fail;refine H.o.mono ?_;rintro e w1 ⟨⟨x,rfl,y9,zK⟩,hc,hg⟩;obtain⟨k,rfl⟩:∃k:Nat,x=k:=⟨x.toNat,by omega⟩;have hk:k<=I.size:=by omega
 have CX:(k:Int)<=(I.size:Int):=by omega
 have HC:=ae hc;have HG:=ae hg;clear hc hg;go_wp2_with fail;refine(ek HC.o 6 e7).mono ?_;rintro e w2 ⟨⟨y,rfl,BG,An⟩,hc,hg⟩;have U:=ae hc;have Q:=ae (eA HG.o hg);clear hc hg;by_cases h0:y=0
 ·subst h0;have Z:=ae (Na (U.o.ext (Ext.drew w2)) ((BE.o w2 Q.o).ext (Ext.drew w2)) hn HN.o);have MB:=ae (show w.grownBy w2.drew (some cb)from eA Q.o (ij _ (Ext.drew w2)));go_wp2_with fail;refine rN (S:=(fun w'=>True)) e9 ?_ (fun l7=>?_)
  ·trivial
  refine tk 0 ?_;refine tk 1 ?_;refine tk 2 ?_;refine tk 3 ?_;refine tk 4 ?_;refine tk 7 ?_;refine tk 8 ?_;refine tk 9 ?_;refine rd (i:=5) (h:=fun K hK=>?_);go_simp;refine Z.o.mono ?_;rintro e w3 ⟨⟨z,hz,rfl⟩,hc,hg⟩;have HC3:=ae hc;have KN:=ae (eA MB.o hg);have J:=ae (AO.o z hz);have XH:(bs z).size<=20:=(by rw[aW];exact J.o);obtain⟨tp,G⟩:=b9 (bs z);have VG:=ae G;rw[<-G]at XH;rw[<-G];have AS:¬9223372036854775807<k+tp.size:=e7;have AD:¬9223372036854775807<k+tp.size+(I.size-k):=e7;clear hc hg hz G;go_wp2_with fail;refine hK.out _ _ ?_ (fun l7=>?_)
  ·trivial
  clear hK K
  try simp only[Act.put,sA,sB,sC]
  refine tk 6 ?_;refine tk 10 ?_;refine tk 11 ?_;refine Gh e9 ?_ _;go_wp2_with fail;go_ret;exact⟨⟨t.take k++z++t.drop k,bM (by rw[HX.o,HX.o,VG.o,GH.o.2,aaN,bT,bT];rfl),by have:=GH.o;have:=J.o;simp only[pk,FX,aaj];omega⟩,HC3.o,KN.o⟩
 ·by_cases h1:y=1
  ·subst h1;go_wp2_with fail;go_ret;exact⟨⟨t.take k,bM (by rw[HX.o];rfl),by rw[FX];have:=GH.o;omega⟩,U.o,Q.o⟩
  ·have e0:(y == 0)=false:=by simp[h0]
   have e1:(y == 1)=false:=by simp[h1]
   go_wp2_with fail;go_ret;exact⟨⟨t,bM H7.o,by have:=GH.o;omega⟩,U.o,Q.o⟩
theorem xH(p:Nat)(V:j7):(cY p V).length<=2000:=by
 unfold cY
 split
 ·next h =>
  obtain⟨q,hq,C4,EX,hlen,_,hb⟩:=bQ h
  have h1:=gH (V:=V) (fun j=>by
   by_cases hj:j<V.length
   ·rw[bk hj,l'];have:=hb _ (vl hj);omega
   ·rw[G4 e7];decide) V.length
  have h2:=bP q EX;have h3:=lM (n:=p) e7;unfold eB;simp only[pk,OX,aap];omega
 ·simp
def Xn:List (List UInt8):=[[32],[10],[97],[98,32,49,10],[48],[45],[112,108,97,121,101,114,115,32,50,10]]
theorem oY{cap:Nat}(h:eS w a n cap)(hn:n<=1048576):
 Calls Tryz.prog 33 #[.slice a n cap] w fun e w'=>(∃u:List UInt8,e=.returned (.string (bs u))/\u.length<=1000020)/\Ext w w':=by
 have HN:=ae (vz h hn);clear h;go_enter Tryz.func33,Tryz.ntmps33
 go_wp2_with fail;refine HN.o.mono ?_;rintro e w1 ⟨⟨cb,rfl,J,hc⟩,hx⟩;have X1:=ae hx;have HC:=ae hc;have TF:=ae J;clear hc hx J;go_wp2_with fail;refine(M8 HC.o 4 e7 e7).mono ?_;rintro e w2 ⟨⟨q,vb,V,rfl,hd⟩,hc,hg⟩;have U:=ae hc;have Q:=bP q (j1 hd.hi);have HF:=ae (jg (p:=q) (hd.row.ints (n:=cN q) (cap:=cN q) hd.len (ao _) e7) (fun k=>by have:=hd.tiny k;omega));have X2:=ae (ak X1.o hg (fun k hk=>by have:=Og hk;have:=TF.o;omega));have K:=ae (xH q V);obtain⟨O,I⟩:=b9 (cY q V);rw[<-I]at HF K;clear hc hg hd Q I;go_wp2_with fail;refine HF.o.mono ?_;rintro e w3 ⟨rfl,hx⟩;have X3:=ae (X2.o.trans hx);have G:=ae (U.o.ext hx);have CS:=ae (BU.lit zH 9 w3 Xn 7 rfl #[.string ⟨#[32]⟩,.string ⟨#[10]⟩,.string ⟨#[97]⟩,.string ⟨#[98,32,49,10]⟩,.string ⟨#[48]⟩,.string ⟨#[45]⟩,.string ⟨#[112,108,97,121,101,114,115,32,50,10]⟩] rfl w3.heap.size rfl e7)
 have HT:=ae (wV (G.o.ext (Ext.alloc _ _)) O (j1 K.o) CS.o e7 (fun b off e=>by
  simp only[bA,mq,zz]at e
  have:=G.o.lt;omega) (by decide))
 clear hx;go_wp2_with fail;refine HT.o.mono ?_;rintro e w4 ⟨⟨u,rfl,hu⟩,hc,hg⟩;have X4:=ae (ak (X3.o.trans (Ext.alloc _ _)) hg (fun k hk=>by have:=Og hk;have:=TF.o;omega));have HU:=ae hu;clear hc hg hu;go_wp2_with fail;go_ret;exact⟨⟨u,rfl,HU.o⟩,X4.o⟩
theorem oZ{cap:Nat}(h:eS w a n cap)(hn:n<=1048576):
 Calls Tryz.prog 13 #[.slice a n cap] w fun e w'=>(∃u:List UInt8,e=.returned (.string (bs u))/\u.length<=1000020)/\Ext w w':=by
 have H:=ae (oY h hn);clear h;go_enter Tryz.func13,Tryz.ntmps13
 go_wp2_with fail;refine H.o.mono ?_;rintro e w1 ⟨⟨u,rfl,hu⟩,hx⟩;have HX:=ae hx;have HU:=ae hu;clear hx hu;go_wp2_with fail;go_ret;exact⟨⟨u,rfl,HU.o⟩,HX.o⟩
theorem nH{cap:Nat}(h:eS w a n cap)(hn:n<=1048576):
 Calls Tryz.prog 11 #[.slice a n cap] w fun e w'=>(∃k:Int,e=.returned (.int .i64 k))/\Ext w w':=by
 have HN:=ae (vz h hn);clear h;go_enter Tryz.func11,Tryz.ntmps11
 go_wp2_with fail;refine HN.o.mono ?_;rintro e w1 ⟨⟨cb,rfl,G,hc⟩,hx⟩;have X1:=ae hx;have HC:=ae hc;have TF:=ae G;clear hc hx G;go_wp2_with fail;refine(ek HC.o 7 e7).mono ?_;rintro e w2 ⟨⟨k,rfl,_,_⟩,hc,hg⟩;have X2:=ae (ak X1.o hg (fun k hk=>by have:=Og hk;have:=TF.o;omega));clear hc hg;go_wp2_with fail;go_ret;exact⟨⟨k,rfl⟩,X2.o⟩
theorem uP(t:List UInt8):∃c r,eg t=c::r:=by
 have h:eg t≠[]:=by
  unfold eg pl
  split<;>simp
 cases e:eg t with
 | nil=>exact absurd e h
 | cons c r=>exact⟨c,r,rfl⟩
theorem Nc(k:Int):(Fj k=[]/\runE k=[])∨∃c r I G,Fj k=c::r/\runE k=I::G:=by
 unfold runE;cases e:Fj k with
 | nil=>left;exact⟨rfl,hI rfl⟩
 | cons c r =>
   right
   obtain⟨I,G,h⟩:=uP (c::r);exact⟨c,r,I,G,rfl,by rw[hD e8];exact h⟩
theorem sI {w: World}{a: Option Addr}{n cap: Nat}(h : eS w a n cap)(ht : Lib.TabIs Tryz.prog w "internal/strconv.uint64pow10" .u64 Lib.pow10Tab) :
 Calls Tryz.prog 5 #[.slice a n cap] w fun e w'=>e=.returned (.bool true)/\Ext w w':=by
 have l8:=h.l8;have l9:=h.l9;have H:=ae h;have HT:=ae ht;clear h ht;by_cases hbig:1048576<n
 ·go_enter ad1,Tryz.ntmps5
  go_wp2_with fail;go_in;go_wp2_with fail;go_ret;exact⟨rfl,Ext.refl _⟩
 have hb:n<=1048576:=by omega
 go_enter ad1,Tryz.ntmps5
 go_wp2_with fail;go_in;go_wp2_with fail;refine(nH H.o hb).mono ?_;rintro e w1 ⟨⟨k,rfl⟩,hx⟩;have X1:=ae hx;clear hx;have HI:=ae (fun(w':World) (hx:Ext w w')=>lk (w:=w') k (ec HT.o hx));have HS:=ae (fun(w':World)=>lB (w:=w') k);have HIE:=ae (fun(w':World) (hx:Ext w w')=>kE (w:=w') k (ec HT.o hx));have Tq:=ae (fun(w':World)=>kI (w:=w') k);have HD:=ae (fun(w':World) (hx:Ext w w')=>oZ (H.o.ext hx) hb);have HW:=ae (Nc k);obtain⟨lr,DH⟩:=b9 (runE k);obtain⟨lx,hlx⟩:=b9 (Fj k);rw[<-DH,<-hlx]at HW;simp only[<-DH]at HI HS;simp only[<-hlx]at HIE Tq;clear DH hlx;obtain⟨tr,Rm⟩:=b9 (bs lr);obtain⟨tx,Eb⟩:=b9 (bs lx);have A1:=ae (show tr.toList=lr by rw[Rm,bW]);have HLX:=ae (show tx.toList=lx by rw[Eb,bW]);simp only[<-Rm]at HI HS;simp only[<-Eb]at HIE Tq;clear Rm Eb;go_wp2_with fail;refine(HI.o _ X1.o).mono ?_;rintro e w2 ⟨rfl,hx⟩;have X2:=ae (X1.o.trans hx);clear hx;go_wp2_with fail;refine(HIE.o _ X2.o).mono ?_;rintro e w3 ⟨rfl,hx⟩;have X3:=ae (X2.o.trans hx);clear hx;go_wp2_with fail;refine(HD.o _ X3.o).mono ?_;rintro e w4 ⟨⟨u,rfl,hu⟩,hx⟩;have X4:=ae (X3.o.trans hx);have HIU:=ae (fun(w':World) (hx:Ext w w')=>mB (w:=w') u e7 (ec HT.o hx));have HSU:=ae (fun(w':World)=>mO (w:=w') u e7);obtain⟨tu,htu⟩:=b9 (bs u)
 obtain⟨ts,Uk⟩:=b9 (bs (eg u));simp only[<-htu,<-Uk]at HIU HSU;rw[<-htu];clear hx htu Uk hu
 rcases HW.o with⟨e1,e2⟩|⟨c,r,c',r',e1,e2⟩
 ·have YM:=A1.o.trans e2;have hl2:=HLX.o.trans e1;clear e1 e2;go_wp2_with fail;refine(HS.o _).mono ?_;rintro e w5 ⟨rfl,hx⟩;have X5:=ae (X4.o.trans hx);clear hx;go_wp2_with fail;refine(Tq.o _).mono ?_;rintro e w6 ⟨rfl,hx⟩;have X6:=ae (X5.o.trans hx);clear hx;go_wp2_with fail;refine(HIU.o _ X6.o).mono ?_;rintro e w7 ⟨rfl,hx⟩;have X7:=ae (X6.o.trans hx);clear hx;go_wp2_with fail;refine(HSU.o _).mono ?_;rintro e w8 ⟨rfl,hx⟩;have X8:=ae (X7.o.trans hx);clear hx;go_wp2_with fail;go_ret;exact⟨rfl,X8.o⟩
 ·have YM:=A1.o.trans e2;have hl2:=HLX.o.trans e1;clear e1 e2;go_wp2_with fail;refine(HS.o _).mono ?_;rintro e w5 ⟨rfl,hx⟩;have X5:=ae (X4.o.trans hx);clear hx;go_wp2_with fail;refine(Tq.o _).mono ?_;rintro e w6 ⟨rfl,hx⟩;have X6:=ae (X5.o.trans hx);clear hx;go_wp2_with fail;refine(HIU.o _ X6.o).mono ?_;rintro e w7 ⟨rfl,hx⟩;have X7:=ae (X6.o.trans hx);clear hx;go_wp2_with fail;refine(HSU.o _).mono ?_;rintro e w8 ⟨rfl,hx⟩;have X8:=ae (X7.o.trans hx);clear hx;go_wp2_with fail;go_ret;exact⟨rfl,X8.o⟩
