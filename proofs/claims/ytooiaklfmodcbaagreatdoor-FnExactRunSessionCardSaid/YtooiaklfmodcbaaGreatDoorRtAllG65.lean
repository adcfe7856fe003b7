import Derived.Lib.SplitLaws
import Derived.Test.YtooiaklfmodcbaaGreatDoorRtAllG50
import Derived.Deep.Slices
import Derived.ProofKit
import Derived.OpenShut
import Derived.ShutString
import Derived.ChangeOld
import Derived.Lib.SmallJoins
import Derived.Handed
import Derived.HandedShaped
import Derived.Test.YtooiaklfmodcbaaGreatDoorCards
import Derived.Test.YtooiaklfmodcbaaGreatDoorTie
import Derived.Shelf.Vars
import Derived.SevenTiedAt
import Derived.LaidMore
import Derived.Lay
import Derived.Stop.Joined
import Derived.Stop.LaidErr
set_option linter.all false
namespace Go.Proofs.YtooiaklfmodcbaaGreatDoor
open Ending renaming returned->ar
open List renaming length->JL
open Obj renaming cells->QD
open Value renaming slice->GI,bool->bl,string->aE,pointer->aP
set_option maxHeartbeats 6000000
set_option maxRecDepth 100000
open Go.RowKit
def I1{P:Prop}(h:P:=by simp[results,YY,go_sem,r0,r1,r2,rf,z0,z1,z2]<;>rfl):P:=h
def QG{P:Prop}(h:P:=by rw[hx];decide):P:=h
def vl(w:J):Prop:=∃m,w.cell? ⟨0,0,none⟩=some (U m)
def vl.ext{w w':J}(h:vl w)(hx:C7 w w'):vl w':=let⟨m,hm⟩:=h;⟨m,hx.o6 hm⟩
section
variable{w:J}{p:Int}{a b:l9}{n cap m dap:Nat}{V:o3}{X:l7}{base:Nat}
theorem yO (h : d9 w a n cap V) (ht : Lib.TabIs Tryz.prog w "internal/strconv.uint64pow10" .u64 Lib.pow10Tab) :
 f8 76 #[FS p a n cap] w (aE (bs (if ak p V=true then ed p.toNat V else []))):=by
 cases DL:ak p V
 ·have X2:=I (C7.alloc w (QD #[U p,GI a n cap] 31));have HG:=I (bV (p:=p) (h.ext X2));rw[DL]at HG;clear h ht DL;unfold f8;go_in
  go_wp2_with fail;refine IR HG λw1 hx=>?_;exact P3
 obtain⟨q,rfl,h1,h5,hlen,_,hb⟩:=ap DL;rw[f9 rfl,gg];exact wv h (λj=>by have:=dp hb j;omega) ht
def YC{P:Prop}(h:P:=by
 have F5:=I (GL.lit A9 9 w2 [[115,117,112,101,114,97,100,100,105,116,105,118,101]] 1 rfl #[aE ⟨#[115,117,112,101,114,97,100,100,105,116,105,118,101]⟩] rfl w2.heap.size rfl j0);go_wp2_with (at_builtin;refine dJ A9 Tryz.EZ rfl Ry Fd rfl _ _ rfl W.heap.size (GI b1 m1 e1) L1 rfl (Fy.ext WU) _ 1 1 [[115,117,112,101,114,97,100,100,105,116,105,118,101]] rfl F5.o (k8 HN1.o) (by have:=XA2.size;simp;omega) ?_;intro v6 w6 ho hg r7;obtain⟨a6,n6,c6,rfl,Ia⟩:=ho.var;have EP:=I ho;have FU:=I (aj (XA2.trans WU) hg (λj hj=>(Fy.lt j hj).1));clear ho hg r7);go_meet;exact⟨_,_,_,_,rfl,EP,I j7,FU⟩
 ):P:=h
def Sx{P:Prop}(h:P:=by
 have F5:=I (GL.lit A9 9 w1 [[109,111,110,111,116,111,110,101]] 1 rfl #[aE ⟨#[109,111,110,111,116,111,110,101]⟩] rfl w1.heap.size rfl j0);go_wp2_with (at_builtin;refine dJ A9 Tryz.EZ rfl Ry Fd rfl _ _ rfl W.heap.size (EQ W.heap.size 0 0) [] rfl (Ee.ext WU) _ 1 1 [[109,111,110,111,116,111,110,101]] rfl F5.o j7 (by have:=XA1.size;simp;omega) ?_;intro v6 w6 ho hg r7;obtain⟨a6,n6,c6,rfl,Ia⟩:=ho.var;have EP:=I ho;have FU:=I (aj (XA1.trans WU) hg (λj hj=>(Ee.lt j hj).1));clear ho hg r7);go_meet;exact⟨_,_,_,_,rfl,EP,I j7,FU⟩
 ):P:=h
def Hm{P:Prop}(h:P:=by
 have F5:=I (GL.lit A9 9 w3 [[99,111,110,118,101,120]] 1 rfl #[aE ⟨#[99,111,110,118,101,120]⟩] rfl w3.heap.size rfl j0);go_wp2_with (at_builtin;refine dJ A9 Tryz.EZ rfl Ry Fd rfl _ _ rfl W.heap.size (GI b2 m2 e2) L2 rfl (En.ext WU) _ 1 1 [[99,111,110,118,101,120]] rfl F5.o (k8 Hb.o) (by have:=XA3.size;simp;omega) ?_;intro v6 w6 ho hg r7;obtain⟨a6,n6,c6,rfl,Ia⟩:=ho.var;have EP:=I ho;have FU:=I (aj (XA3.trans WU) hg (λj hj=>(En.lt j hj).1));clear ho hg r7);go_meet;exact⟨_,_,_,_,rfl,EP,I j7,FU⟩
 ):P:=h
def Y7{P:Prop}(h:P:=by
 go_wp2;go_meet;exact⟨_,_,_,_,rfl,Fy,I j7,XA2⟩
 ):P:=h
def S0{P:Prop}(h:P:=by
 go_wp2;go_meet;exact⟨_,_,_,_,rfl,En,I j7,XA3⟩
 ):P:=h
def Oq{P:Prop}(h:P:=by
 go_wp2;go_meet;exact⟨_,_,_,_,rfl,Ee,I j7,XA1⟩
 ):P:=h
theorem LL (hO : aK w base a n cap b m dap V X) (hb : base <= w.heap.size) (htab : Lib.TabIs Tryz.prog w "internal/strconv.uint64pow10" .u64 Lib.pow10Tab) (t : List UInt8) (h : So t = 7) :
 Calls Tryz.prog 26 #[sess p a n cap b m dap,aE (bs t)] w λe w'=>DJ w' base e (Fz ⟨p,V,X⟩ 7)/\C7 w w':=by
 have⟨e0,e1,e2,e3,e4,e5,e6,e7,e8⟩:=w9 t;simp only[h,Nat.reduceBEq]at e0 e1 e2 e3 e4 e5 e6 e7 e8;generalize bs t=tt at e0 e1 e2 e3 e4 e5 e6 e7 e8⊢;have⟨W,hW,HT,HO,⟨c0,c1,c2,cf⟩,r0,r1,r2,rf⟩:=fR p hO;refine ns htab hb (λ(w':J) (hx:C7 W w')=>AP (p:=p) (HO.v.ints.ext hx)) (λ(w':J) (hx:C7 W w')=>Z' (p:=p) (HO.v.ints.ext hx)) (λ(w':J) (hx:C7 W w')=>Co (p:=p) (HO.v.ints.ext hx)) λHTB I2 H1 H2 H3=>?_;have OY:=show lq ⟨p,V,X⟩=(if dd 1 p V=true then [[109,111,110,111,116,111,110,101]] else [])++((if dd 2 p V=true then [[115,117,112,101,114,97,100,100,105,116,105,118,101]] else [])++(if dd 3 p V=true then [[99,111,110,118,101,120]] else []))from rfl
 have⟨k1,Gj⟩:=e9 (dd 1 p V);have⟨k2,o7⟩:=e9 (dd 2 p V);have⟨k3,JH⟩:=e9 (dd 3 p V);simp only[<-Gj]at H1;simp only[<-o7]at H2;simp only[<-JH]at H3;rw[<-Gj,<-o7,<-JH]at OY;have OY:=I OY;clear Gj o7 JH;clear htab hb h;clear hO;go_in
 go_upto_region 1 with fail;rw[<-hW];clear hW;have⟨v0,KH⟩:=e9 (W.alloc (QD #[] 9));have A8:=I (show C7 W v0 by rw[KH];exact WU);have Nr:=I (show A5 A9 9 v0 W (EQ W 0 0) []by rw[KH];exact A5.D2 A9 9 W W _ rfl (i8 _));go_upto_region 35 with fail;rw[<-KH];clear KH c0 c1 c2 cf;have⟨c0,c1,c2,cf⟩:=(HT.ext A8).s.c
 go_upto_if 162 with(go_at_call 72;refine i7 (H1 _ A8) λw1 hx=>?_)
 have XA1:=I ((show C7 W _ from A8).trans hx);have Ee:=I (Nr.ext hx);go_cut [21] (λv wx=>∃(b4:l9) (m4 c4:Nat) (L:List (List UInt8)),v=GI b4 m4 c4/\b9 (A5 A9 9 wx W (GI b4 m4 c4) L)/\b9 (L=[]++(if k1=true then [[109,111,110,111,116,111,110,101]] else []))/\b9 (C7 W wx))
 case first =>
  cases k1 with
  | false =>
    exact Oq
  | true =>
    exact Sx
 obtain⟨b1,m1,e1,L1,rfl,Me,QR,A0⟩:=hcut;have⟨v1,JD⟩:=e9 wc;subst JD;have HN1:=I (show JL L1<=1 by rw[QR.o,SW];split<;>simp);clear c0 c1 c2 cf;have⟨c0,c1,c2,cf⟩:=(HT.ext A0).s.c;go_upto_if 168 with(go_at_call 73;refine i7 (H2 _ A0) λw2 hx=>?_)
 have XA2:=I ((show C7 W _ from A0).trans hx);have Fy:=I (Me.ext hx);go_cut [21] (λv wx=>∃(b4:l9) (m4 c4:Nat) (L:List (List UInt8)),v=GI b4 m4 c4/\b9 (A5 A9 9 wx W (GI b4 m4 c4) L)/\b9 (L=L1++(if k2=true then [[115,117,112,101,114,97,100,100,105,116,105,118,101]] else []))/\b9 (C7 W wx))
 case first =>
  cases k2 with
  | false =>
    exact Y7
  | true =>
    exact YC
 obtain⟨b2,m2,e2,L2,rfl,HL2,GB,C0⟩:=hcut;have⟨v2,MK⟩:=e9 wc;subst MK;have Hb:=I (show JL L2<=2 by rw[GB.o,SW];have:=HN1.o;split<;>simp<;>omega);clear c0 c1 c2 cf;have⟨c0,c1,c2,cf⟩:=(HT.ext C0).s.c;go_upto_if 174 with(go_at_call 74;refine i7 (H3 _ C0) λw3 hx=>?_)
 have XA3:=I ((show C7 W _ from C0).trans hx);have En:=I (HL2.ext hx);go_cut [21] (λv wx=>∃(b4:l9) (m4 c4:Nat) (L:List (List UInt8)),v=GI b4 m4 c4/\b9 (A5 A9 9 wx W (GI b4 m4 c4) L)/\b9 (L=L2++(if k3=true then [[99,111,110,118,101,120]] else []))/\b9 (C7 W wx))
 case first =>
  cases k3 with
  | false =>
    exact S0
  | true =>
    exact Hm
 obtain⟨b3,m3,e3,L3,rfl,Oz,Pr,B7⟩:=hcut;have⟨v3,Tg⟩:=e9 wc;subst Tg;have LK:=I (show JL L3<=3 by rw[Pr.o,SW];have:=Hb.o;split<;>simp<;>omega);clear c0 c1 c2 cf;have⟨c0,c1,c2,cf⟩:=(HT.ext B7).s.c;have Pn:=I (show Fz ⟨p,V,X⟩ 7=(⟨p,V,X⟩,if L3=[] then [110,111,110,101] else Lib.join L3 [32])by
  have h:=OY.o;rw[<-yf,<-Qu (if k1=true then _ else _),<-QR.o,<-GB.o,<-Pr.o]at h;show(_,if lq ⟨p,V,X⟩=[] then _ else Lib.join (lq ⟨p,V,X⟩) [32])=_;rw[h])
 have LF:=Oz.Hr.hlen;refine t8 (HT.ext B7) (HO.ext B7) LF λFh Ec Lz=>?_;by_cases h0:m3=0
 ·subst h0;have Pn:=I (Pn.trans (by rw[f9 (QX LF)]));clear LF r0 r1 r2 rf;have⟨r0,r1,r2,rf⟩:=Fh.r.c;have⟨z0,z1,z2,HZ,XZ⟩:=Fh.Eg Ec.o (p);have qq0:=@xi;exact yB
 have hne:((m3:Int) == 0)=false:=m9;have M6:=I (show Fz ⟨p,V,X⟩ 7=(⟨p,V,X⟩,Lib.join L3 [32])by rw[Pn.o,f7 (λe=>h0 (by rw[<-LF,e];rfl))]);have hm3:m3<=3:=k8 LK.o;have S4:=I (λ(w':J) (hx:C7 v3 w')=>wB (Oz.ext hx) [32] j0 (by
  have:=ms (L:=L3) (m:=50) (λz hz=>by
   rw[Pr.o,GB.o,QR.o]at hz;simp only[Qu,Wn,List.mem_ite_nil_right,Se]at hz;rcases hz with(⟨_,rfl⟩|⟨_,rfl⟩)|⟨_,rfl⟩<;>decide)
  omega))
 have⟨tj,Y8⟩:=GT (bs (Lib.join L3 [32]));simp only[<-Y8.o]at S4;have hk:=C7.drew v3;clear LF h0 r0 r1 r2 rf;go_upto_region 43 with fail;exact Zo
end
end Go.Proofs.YtooiaklfmodcbaaGreatDoor
namespace Go.Proofs.YtooiaklfmodcbaaGreatDoor
open Ending renaming returned->ar
open List renaming length->JL
open Obj renaming cells->QD
open Value renaming slice->GI,bool->bl,string->aE,pointer->aP
open Go.Proofs.Tryz
variable{w:J}{s:St}{base:Nat}{v:arQ}{l:List (List UInt8)}
set_option maxHeartbeats 6000000
set_option maxRecDepth 100000
open Go.RowKit
theorem Z3(h:vl w)(l:List UInt8)(hl:JL l<=1048576):f8 75 #[aE (bs l),aE ⟨#[10]⟩,aE ⟨#[59]⟩] w (aE (bs (Lib.join (DR 10 l) [59]))):=by
 obtain⟨m,hm⟩:=h;have h1:(bs l).size=JL l:=aY l;have hc:=Lib.countB_le ⟨#[10]⟩ Fd _ (bs l) (i8 _);have H:=Any.strings_ReplaceAll Z2 Xk (bs l) ⟨#[10]⟩ ⟨#[59]⟩ m w j0 hm Fd (by show _+_*1<=_;omega);refine Calls.mono H ?_;rintro e w' ⟨rfl,hx⟩;refine⟨?_,hx⟩;rw[show(bs l).data.toList=l from V' ..,<-U8 Fd l];rfl
theorem VI(h:vl w)(l:List UInt8)(hl:JL l<=1048576){x y:List UInt8}{B:Bool}(hc:Lib.cut l [32]=(x,y,B)):f8 25 #[aE (bs l),aE ⟨#[32]⟩] w (.tuple #[aE (bs x),aE (bs y),bl B]):=by
 obtain⟨m,hm⟩:=h;have h1:(bs l).size=JL l:=aY l;have H:=Any.strings_Cut VF (bs l) ⟨#[32]⟩ m w j0 hm;refine Calls.mono H ?_;rintro e w' ⟨rfl,k,rfl⟩;refine⟨?_,CI (C7.refl w) k⟩;rw[show(bs l).data.toList=l from V' ..,show Lib.cut l (ByteArray.mk #[32]).data.toList=(x,y,B)from hc];rfl
def Gc(t:List UInt8):Nat:=if t=UQ then 0 else if t=[118,97,108,117,101] then 1 else if t=[101,120,97,109,112,108,101] then 2 else if t=[112,97,121,111,102,102] then 3 else 4
theorem c4(t:List UInt8):((bs t).toList == [112,108,97,121,101,114,115])=(Gc t == 0)/\((bs t).toList == [118,97,108,117,101])=(Gc t == 1)/\((bs t).toList == [101,120,97,109,112,108,101])=(Gc t == 2)/\((bs t).toList == [112,97,121,111,102,102])=(Gc t == 3):=by
 rw[cY];unfold Gc UQ;have E:∀(x y:List UInt8),(x == y)=decide (x=y):=λx y=>by rw[yy];simp
 simp only[E];by_cases Z:t=[112,108,97,121,101,114,115]
 ·subst Z;decide
 rw[f7 Z];by_cases Q:t=[118,97,108,117,101]
 ·subst Q;decide
 rw[f7 Q];by_cases K:t=[101,120,97,109,112,108,101]
 ·subst K;decide
 rw[f7 K];by_cases G:t=[112,97,121,111,102,102]
 ·subst G;decide
 rw[f7 G];exact⟨Ok Z,Ok Q,Ok K,Ok G⟩
theorem zA(t:List UInt8):Gc t<=4:=by
 unfold Gc
 repeat' split
 all_goals decide
def Q3(s:St)(r:List UInt8)(k:Nat):St×List UInt8 :=
 match k with
 | 0=>jB s (aD r 6)
 | 1=>iM s (DR 32 r)
 | 2=>jA s (aD r 6)
 | 3=>fW s (DR 32 r)
 | _=>(s,fG)
theorem oe{t:List UInt8}(h:(32:UInt8)∉t):dt s t=Lh s t:=by
 unfold dt lg;rw[qF h];exact f9 rfl
theorem uq{x r:List UInt8}(h:(32:UInt8)∉x):dt s (x++32::r)=Q3 s r (Gc x):=by
 unfold dt lg;have h1:=ip 32 r;rw[mR h,nR,f7 j0,List.drop_one,List.tail_cons,nZ];simp only[XT,SB,Nm,Nat.add_right_cancel_iff];unfold Gc;by_cases Q:x=UQ
 ·rw[f9 Q,f9 Q];rfl
 rw[f7 Q,f7 Q];by_cases K:x=[118,97,108,117,101]
 ·rw[f9 K,f9 K];show _=iM s (DR 32 r);unfold iM;by_cases Z:JL (DR 32 r)=2
  ·rw[f9 j0,f9 Z]
  rw[f7 j0,f7 Z]
 rw[f7 K,f7 K];by_cases G:x=[101,120,97,109,112,108,101]
 ·rw[f9 G,f9 G];rfl
 rw[f7 G,f7 G];by_cases E:x=[112,97,121,111,102,102]
 ·rw[f9 E,f9 E];rfl
 rw[f7 E,f7 E];rfl
section
variable{w:J}{p:Int}{a b:l9}{n cap m dap:Nat}{V:o3}{X:l7}{base:Nat}
theorem B2 (hO : aK w base a n cap b m dap V X) (hb : base <= w.heap.size) (htab : Lib.TabIs prog w "internal/strconv.uint64pow10" .u64 Lib.pow10Tab) (t : List UInt8) (h : So t = 8) (hml : vl w) :
 Calls prog 26 #[sess p a n cap b m dap,aE (bs t)] w λe w'=>DJ w' base e (Fz ⟨p,V,X⟩ 8)/\C7 w w':=by
 have⟨e0,e1,e2,e3,e4,e5,e6,e7,e8⟩:=w9 t;simp only[h,Nat.reduceBEq]at e0 e1 e2 e3 e4 e5 e6 e7 e8;generalize bs t=tt at e0 e1 e2 e3 e4 e5 e6 e7 e8⊢;have⟨W,hW,HT,HO,⟨c0,c1,c2,cf⟩,r0,r1,r2,rf⟩:=fR p hO;refine t8 htab hb (hml.ext HT.x) λHTB I2 HML=>?_;have Ob:=I (λ(w':J) (hx:C7 W w')=>yO (p:=p) (HO.v.ints.ext hx) (ec HTB.o (HT.x.trans hx)));have Gn:=show Fz ⟨p,V,X⟩ 8=(⟨p,V,X⟩,Lib.join (DR 10 (if ak p V=true then ed p.toNat V else [])) [59])from rfl
 have JK:JL (if ak p V=true then ed p.toNat V else [])<=1048576:=by
  split
  ·exact fy (wf _ _) Fd
  exact gi _
 have⟨G,hG⟩:=e9 (if ak p V=true then ed p.toNat V else []);simp only[<-hG]at Ob;rw[<-hG]at Gn JK;have HRA:=I (λ(w':J) (hx:C7 W w')=>Z3 (HML.ext hx) G JK);have⟨tg,YN⟩:=e9 (bs G);have⟨ts,HTS⟩:=GT (bs (Lib.join (DR 10 G) [59]));have Gn:=I Gn;simp only[<-YN]at Ob;simp only[<-YN,<-HTS.o]at HRA;clear hG JK YN hml;clear htab hb h;clear hO;go_in
 go_upto_region 1 with fail;rw[<-hW];clear hW;have hk:=C7.drew W;clear r0 r1 r2 rf c0 c1 c2 cf;have⟨c0,c1,c2,cf⟩:=HT.s.c;go_upto_region 45 with fail;refine nE (S:=(λw'=>w'.cell? (O w 0)=some (U p)/\w'.cell? (O w 1)=some (GI a n cap)/\w'.cell? (O w 2)=some (GI b m dap)/\C7 w w')) j8 ?_ (λo9=>?_)
 ·exact(HT.ext hk).keep
 refine mq ⟨?_⟩;refine rd 3 λK hK=>?_;go_simp
 (go_at_call 76;refine i7 (Ob _ hk) λw2 hx=>?_;have hk:=hk.trans hx)
 go_wp2_with fail;refine KO ((HT.ext hk).keep) λo9=>?_;refine rd 4 λK hK=>?_;go_simp
 (go_at_call 75;refine i7 (HRA _ hk) λw3 hx=>?_;have hk:=hk.trans hx)
 go_wp2_with fail;refine KO ((HT.ext hk).keep) λo9=>?_;have LH:=I (HT.ext hk);have Rl:=I (HO.ext hk);have⟨r0,r1,r2,rf⟩:=LH.r.c;have⟨z0,z1,z2,HZ,XZ⟩:=LH.Eg Rl.o p;refine rd 5 λK hK=>?_;go_simp;refine KO (iI LH.o XZ) λo9=>?_;refine tk 6 ?_;refine Pi j8 ?_ _;go_wp2;refine Fn Xv rfl ⟨DJ.of Gn.o HTS.o HZ.o,XZ⟩
theorem SZ (hO : aK w base a n cap b m dap V X) (hb : base <= w.heap.size) (htab : Lib.TabIs prog w "internal/strconv.uint64pow10" .u64 Lib.pow10Tab) (hml : vl w) (t : List UInt8) :
 Calls prog 26 #[sess p a n cap b m dap,aE (bs t)] w λe w'=>DJ w' base e (Lh ⟨p,V,X⟩ t)/\C7 w w':=by
 have hi:=oM t;unfold Lh;have⟨k,hk⟩:=e9 (So t);rw[<-hk]at hi⊢;have h:=hk.symm;clear hk;obtain rfl|rfl|rfl|rfl|rfl|rfl|rfl|rfl|rfl|rfl:k=0∨k=1∨k=2∨k=3∨k=4∨k=5∨k=6∨k=7∨k=8∨k=9:=j0
 ·exact Lt hO hb htab t h
 ·exact JE hO hb htab t h
 ·exact o0 hO hb htab t h
 ·exact ti hO hb htab t h
 ·exact H3 hO hb htab t h
 ·exact gE hO hb htab t h
 ·exact K7 hO hb htab t h
 ·exact LL hO hb htab t h
 ·exact B2 hO hb htab t h hml
 exact pb hO hb htab t h
theorem cq.sess{w W:J}(h:cq w W p a n cap b m dap)(Z Q:l9)(G E K FL:Nat):cq w (E' W w (U p) (GI Z G E) (GI Q K FL)) p Z G E Q K FL :=
 ⟨h.x.E' (i8 _) _ _ _,h.s.put _ _ _,(GE _ _ _ _ j7).trans ((GE _ _ _ _ j7).trans ((GE _ _ _ _ j7).trans h.r))⟩
theorem vh (hV : d9 w a n cap V) (hX : i6 w b m dap X) (hn : n <= 1048576) (hm : m <= 1048576) (htab : Lib.TabIs prog w "internal/strconv.uint64pow10" .u64 Lib.pow10Tab) (hml : vl w) (t : List UInt8) (ht : JL t <= 1048576) :
 Calls prog 12 #[sess p a n cap b m dap,aE (bs t)] w λe w'=>DJ w' w e (dt ⟨p,V,X⟩ t)/\C7 w w':=by
 have T:=UA w p a n cap b m dap;have⟨W,hW⟩:=e9 ((w.alloc (QD #[U p,GI a n cap,GI b m dap] 34)).alloc (QD #[U 0,d6,d6] 34));rw[<-hW]at T;refine z6 T (zv (w:=W) (p:=p) (hV.ext T.x) (hX.ext T.x) hn hm) htab hml (show JL V<=1048576 by rw[hV.hlen];exact hn) (show JL X<=1048576 by rw[hX.hlen];exact hm) λHT HCL HTB HML HVL HXL=>?_;have⟨Z,IY⟩:=GT (dt ⟨p,V,X⟩ t);rw[<-IY.o];have Ow:=I ht;have⟨tt,Nn⟩:=GT (bs t);rw[<-Nn.o];have⟨c0,c1,c2,cf⟩:=T.s.c;clear T hV hX hn hm htab hml ht;go_in
 go_upto_region 1 with fail;rw [<- hW];clear hW;go_wp2_with fail;refine HCL.out.mono ?_;rintro e w1 ⟨⟨a1, n1, k1, b1, m1, d1, rfl, ho⟩, hx⟩;obtain ⟨w2, hw2⟩ : ∃ y, y = ((w1.setCell ⟨w.heap.size, 0, none⟩ (U p)).setCell ⟨w.heap.size, 1, none⟩ (GI a1 n1 k1)).setCell ⟨w.heap.size, 2, none⟩ (GI b1 m1 d1) := ⟨_, rfl⟩;have HT1 := I (show cq w w2 p a1 n1 k1 b1 m1 d1 by rw [hw2]; exact (HT.out.ext hx).sess a1 b1 n1 k1 m1 d1);have HO1 := I (show aK w2 w.heap.size a1 n1 k1 b1 m1 d1 V X by rw [hw2]; exact (ho.mono HT.out.x.size).put (HT.out.ext hx).s _ _ _);clear c0 c1 c2 cf;obtain ⟨c0, c1, c2, cf⟩ := (HT.out.ext hx).s.c;go_upto_region 2 with fail;rw [<- hw2];clear hw2 hx ho c0 c1 c2 cf;obtain ⟨c0, c1, c2, cf⟩ := HT1.out.s.c;have HN1 := I (show n1 <= 1048576 by rw [<- HO1.out.v.ints.hlen]; exact HVL.out);have HM1 := I (show m1 <= 1048576 by rw [<- HO1.out.x.rats.hlen]; exact HXL.out);have HW := I (fun (w' : J) (hx : C7 w2 w') => (⟨HO1.out.ext hx, (HT1.out.x.trans hx).size, ec HTB.out (HT1.out.x.trans hx), HML.out.ext (HT1.out.x.trans hx)⟩ : aK w' w.heap.size a1 n1 k1 b1 m1 d1 V X /\ w.heap.size <= w'.heap.size /\ Lib.TabIs prog w' "internal/strconv.uint64pow10" .u64 Lib.pow10Tab /\ vl w'));by_cases h32 : (32 : UInt8) ∈ t
 ·obtain⟨x,r,rfl,ac'⟩:=iq h32;have HCU:=I (λ(w':J) (hx:C7 w2 w')=>VI (HW w' hx).2.2.2 (x++32::r) Ow.o (Tn ac'));have HZM:=I (IY.trans (uq ac'));have J9:JL r<=1048576:=by have:=Ow.o;simp at this;omega
  have Fq:=I J9;have⟨e0,e1,e2,e3⟩:=c4 x;have hi:=zA x;generalize Gc x=i at e0 e1 e2 e3 HZM hi;have⟨u1,Kr⟩:=e9 (bs x);have⟨u2,Y7⟩:=GT (bs r);rw[<-Kr]at e0 e1 e2 e3;simp only[<-Kr,<-Y7.o,<-Nn.o]at HCU;clear Kr h32 J9 ac';obtain rfl|rfl|rfl|rfl|rfl:i=0∨i=1∨i=2∨i=3∨i=4:=j0
  all_goals simp only[Nat.reduceBEq]at e0 e1 e2 e3
  case pos.inr.inr.inr.inr =>
   have Pn:b9 (Z=(⟨p,V,X⟩,fG)):=HZM;go_wp2_with fail;refine i7 (HCU _ WF) λw3 hx=>?_;have Fh:=I (HT1.ext hx);have Ec:=I (HO1.ext hx);clear c0 c1 c2 cf;have⟨c0,c1,c2,cf⟩:=Fh.s.c;have⟨r0,r1,r2,rf⟩:=Fh.r.c;have⟨z0,z1,z2,HZ,XZ⟩:=Fh.Eg Ec.o (p);have qq0:=@nA;exact yB
  case' pos.inl =>
   have EO:=I (λ(w':J) (hx:C7 w2 w')=>let⟨ho,hb,_⟩:=HW.o w' hx;wK (p:=p) ho hb r);have⟨R,hR⟩:=e9 (jB ⟨p,V,X⟩ (aD r 6))
  case' pos.inr.inl =>
   have EO:=I (λ(w':J) (hx:C7 w2 w')=>let⟨ho,hb,_⟩:=HW.o w' hx;AU (p:=p) ho hb HN1.o HM1.o r Fq);have⟨R,hR⟩:=e9 (iM ⟨p,V,X⟩ (DR 32 r))
  case' pos.inr.inr.inl =>
   have EO:=I (λ(w':J) (hx:C7 w2 w')=>let⟨ho,hb,_⟩:=HW.o w' hx;wJ (p:=p) ho hb r);have⟨R,hR⟩:=e9 (jA ⟨p,V,X⟩ (aD r 6))
  case' pos.inr.inr.inr.inl =>
   have EO:=I (λ(w':J) (hx:C7 w2 w')=>let⟨ho,hb,htb,_⟩:=HW.o w' hx;yS (p:=p) ho hb r Fq.o htb);have⟨R,hR⟩:=e9 (fW ⟨p,V,X⟩ (DR 32 r))
  all_goals
   have JQ:=I (HZM.trans (Eq.trans j9 hR.symm));simp only[<-hR,<-Y7.o]at EO;clear hR;go_wp2_with fail;refine i7 (HCU _ WF) λw3 B7=>?_;have Fh:=I (HT1.ext B7);clear c0 c1 c2 cf;have⟨c0,c1,c2,cf⟩:=Fh.s.c;have⟨r0,r1,r2,rf⟩:=Fh.r.c;go_wp2_with fail;refine(EO _ B7).mono ?_;rintro e w9 ⟨⟨a',n',k',b',m',d',rfl,ho⟩,hx⟩;have FW:=I (Fh.ext hx);have Gl:=I ho;have qq0:=@nA;exact Wh
 have HCU:=I (λ(w':J) (hx:C7 w2 w')=>VI (HW w' hx).2.2.2 t Ow.o (YL h32));have EO:=I (λ(w':J) (hx:C7 w2 w')=>let⟨ho,hb,htb,hml⟩:=HW.o w' hx;SZ (p:=p) ho hb htb hml t);have⟨R,hR⟩:=e9 (Lh ⟨p,V,X⟩ t);have JQ:=I (IY.trans ((oe h32).trans hR.symm));simp only[<-Nn.o]at HCU;simp only[<-hR,<-Nn.o]at EO;clear hR h32;go_wp2_with fail;refine i7 (HCU _ WF) λw3 hx=>?_;have B7:=I hx;have Fh:=I (HT1.ext hx);clear c0 c1 c2 cf;have⟨c0,c1,c2,cf⟩:=Fh.s.c;have⟨r0,r1,r2,rf⟩:=Fh.r.c;go_wp2_with fail;refine(EO _ B7).mono ?_;rintro e w9 ⟨⟨a',n',k',b',m',d',rfl,ho⟩,hx⟩;have FW:=I (Fh.ext hx);have Gl:=I ho;have qq0:=@nA;exact Wh
end
def Bd(s:St):Prop:=JL s.V<=1048576/\JL s.X<=1048576
theorem mQ{P:l7}{ok:Bool}(h:Bd s)(E:ok=true->JL P<=5):Bd (dN s P ok).1:=by
 unfold dN;split
 ·next e=>exact⟨h.1,fy (E e) Fd⟩
 exact h
theorem XW(t:List UInt8)(h:Bd s):Bd (Lh s t).1:=by
 have hi:=oM t;unfold Lh;generalize So t=k at hi;obtain rfl|rfl|rfl|rfl|rfl|rfl|rfl|rfl|rfl|rfl:k=0∨k=1∨k=2∨k=3∨k=4∨k=5∨k=6∨k=7∨k=8∨k=9:=j0
 ·exact mQ h λ_=>ou _ _
 ·exact mQ h λ_=>nu _ _
 ·exact mQ h λe=>qo _ _ e
 ·exact mQ h λ_=>(tB _ _).1
 ·show Bd (if iC s=1 then(⟨s.p,s.V,jx s⟩:St) else s);split
  ·next e=>exact⟨h.1,fy (rL e) Fd⟩
  exact h
 all_goals exact h
theorem Z0{t:List UInt8}(h:Bd s)(G:JL t<=1048576):Bd (dt s t).1:=by
 by_cases E:(32:UInt8)∈t
 ·obtain⟨x,r,rfl,hx⟩:=iq E;rw[uq hx];have hr:JL r+1<=1048576:=by simp at G;omega
  have hi:=zA x;generalize Gc x=k at hi;obtain rfl|rfl|rfl|rfl|rfl:k=0∨k=1∨k=2∨k=3∨k=4:=j0
  ·show Bd (jB s (aD r 6)).1;unfold jB jn;split
   ·split
    ·next hk=>exact⟨by rw[G6];exact fy (bp _ j0).2 Fd,gi _⟩
    exact h
   exact h
  ·show Bd (iM s (DR 32 r)).1;unfold iM ft;split
   ·split
    ·split
     ·exact⟨by rw[k7];exact h.1,gi _⟩
     exact h
    exact h
   exact h
  ·show Bd (jA s (aD r 6)).1;unfold jA;split
   ·rw[xY];split
    ·next hk =>
     have Z:=uf hk;obtain⟨j,Q⟩:∃j:Nat,aD r 6=j:=⟨(aD r 6).toNat,by omega⟩;rw[Q]at Z⊢;obtain⟨q,_,_,h5,K,_⟩:=ap (zp ⟨j,by omega⟩ (by show 1<=j;omega));exact⟨by rw[K];exact fy (bp q h5).2 Fd,gi _⟩
    exact h
   exact h
  ·show Bd (fW s (DR 32 r)).1;unfold fW;split
   ·exact h
   next Y hY =>
   have h1:=lw 32 r;unfold ME at hY;have h2:=cX hY;exact⟨h.1,by show JL Y<=_;omega⟩
  exact h
 rw[oe E];exact XW t h
theorem ol{L:List (List UInt8)}(E:∀x∈L,JL x<=1048576):∀k,Bd (Ic L k).1/\(Ic L k).2.length=k
 | 0=>⟨⟨gi _,gi _⟩,rfl⟩
 | k+1=>⟨Z0 (ol E k).1 (by
     by_cases h:k<JL L
     ·rw[Id h,Nm];exact E _ (eN h)
     rw[q8 j0];exact gi _),by show((Ic L k).2++[_]).length=_;rw[SW,(ol E k).2];rfl⟩
def Pv(t:List UInt8):List (List UInt8):=if(DR 10 t).length<=60 then(Ic (DR 10 t) (JL (DR 10 t))).2 else []
theorem A5.E'{r:Nat}{x y z:arQ}(h:A5 A9 9 w base v l)(hb:C8 w r x y z)(x' y' z':arQ):A5 A9 9 (E' w r x' y' z') base v l:=by
 have E:=cE w r 0 _ _ x' hb;have G:=cE _ r 1 _ _ y' E;exact bg (bg (bg h hb Fd) E Fd) G Fd
theorem aK.beside{w':J}{base':Nat}{a b:l9}{n cap m dap:Nat}{V:o3}{X:l7}(h:aK w base a n cap b m dap V X)(ho:A5 A9 9 w base' v l)(hg:w.grownBy w' v.ownBlock):aK w' base a n cap b m dap V X :=
 ⟨h.v.keep λj E=>hg.block j (h.v.lt j E).2 λe=>aL (show(3:Nat)≠9 by decide) h.v ho j E e.symm,h.x.keep λj E=>hg.block j (h.x.lt j E).2 λe=>aL (show(56:Nat)≠9 by decide) h.x ho j E e.symm⟩
theorem C8.beside{w':J}{r:Nat}{x y z:arQ}(h:C8 w r x y z)(ho:A5 A9 9 w base v l)(hg:w.grownBy w' v.ownBlock):C8 w' r x y z :=
 (hg.block r (In h) λe=>aq ho h Fd e).trans h
def Qh{P:Prop}(h:P:=by
 have Po:=I (show C8 w6 r (U p5) (GI a5 n5 k5) (GI b5 m5 d5)by rw[GD];exact C8.put JR.o _ _ _);have EP:=I (show aK w6 w.heap.size a5 n5 k5 b5 m5 d5 V5 X5 by rw[GD];exact aK.put DT.o JR.o _ _ _);have HA6:=I (show A5 A9 9 w6 w1.heap.size (GI a4 n4 c4) A by rw[GD];exact(HA.ext FV).E' JR.o _ _ _);have FU:=I (show C7 w1 w6 by rw[GD];exact(HX.trans FV).E' HRG.o _ _ _);go_upto_region 11 with fail;rw[<-GD];clear GD c0 c1 c2 cf d0 d1 d2 df;have F5:=I (GL.lit A9 9 w6 [t5] 1 rfl #[aE (bs t5)] rfl w6.heap.size rfl j0);rw[<-R7.o]at F5
 go_wp2_with (at_builtin;refine dJ A9 Tryz.EZ rfl Ry Fd rfl _ _ rfl w1.heap.size (GI a4 n4 c4) A rfl (HA6.ext WU) _ 1 1 [t5] rfl F5.o (k8 HAL.o) (by have:=FU.size;simp;omega) ?_;intro v7 w7 ho hg r7;have II:=I ((EP.ext WU).beside (HA6.ext WU) hg);have HR7:=I (C8.beside (WU.blk Po) (HA6.ext WU) hg);have R4:=I (aj (FU.trans WU) hg (λj hj=>(HA6.lt j hj).1));obtain⟨a7,n7,c7,rfl,My⟩:=ho.var;have HA7:=I ho;clear ho hg r7)
 refine er ?_;exact⟨k+1,_,_,_,_,_,_,_,_,_,_,_,_,_,I (k8 HK.o),rfl,by go_num,Np,HA7,HR7,II,R4⟩
 ):P:=h
def Og{P:Prop}(h:P:=by
 have DV:k=n1:=by have:=HK.o;omega
 have HZR:=I (show Z=A by rw[HZ.o,<-DV,Fq.o]);have G4:¬(k:Int)<(n1:Int):=by omega
 clear DV;go_wp2;refine Fn (v:=.tuple #[GI a4 n4 c4,bl true]) (by simp[results,qq0,go_sem]) rfl ⟨⟨_,by rw[Od.o],by rw[HZR.o];exact HA.mono A0.size⟩,A0.trans HX.o⟩
 ):P:=h
theorem wE {w: J}(htab : Lib.TabIs prog w "internal/strconv.uint64pow10" .u64 Lib.pow10Tab)(hml : vl w)(t : List UInt8)(ht : JL t <= 1048576) :
 Calls prog 5 #[aE (bs t)] w λe w'=>(∃v,e=ar (.tuple #[v,bl (decide (JL (DR 10 t)<=60))])/\A5 A9 9 w' w v (Pv t))/\C7 w w':=by
 have EO:=I (jh (w:=w) t 10 j0);have hrs:=show Pv t=if(DR 10 t).length<=60 then(Ic (DR 10 t) (JL (DR 10 t))).2 else []from rfl
 have Oo:∀x∈DR 10 t,JL x<=1048576:=λx hx=>fy (kE hx) ht
 have EU:=ol Oo;generalize Pv t=Z at hrs⊢;generalize DR 10 t=L at EO hrs Oo EU⊢;generalize bs t=tt at EO⊢;have Kk:=I hrs;have⟨B,Gf⟩:=GT (decide (JL L<=60));rw[<-Gf.o];refine Op Oo EU htab hml λOa DO HTB HML=>?_;clear Oo htab hml ht hrs EU;go_in
 go_wp2_with fail;refine E9 EO λw1 v ho hx=>?_;obtain⟨a1,n1,c1,rfl,HN1⟩:=ho.var;have⟨Lq,Lm⟩:=ho.Hr.aq9;have A0:=I hx;have Is:=I ho.Hr;clear ho hx;have Gf:=I (show B=decide (n1<=60)by rw[Gf.o,HN1.o]);by_cases hn:n1<=60
 ·have hng:¬(60:Int)<(n1:Int):=by omega
  have Od:=I (Gf.trans (UV hn));have HZ:=I (show Z=(Ic L n1).2 by rw[Kk.o,HN1.o,f9 hn]);have⟨w2,hw2⟩:=e9 (w1.alloc (QD #[U 0,d6,d6] 34));have Fy:=I (show C8 w2 w1 (U 0) d6 (d6)by rw[hw2];exact IO rfl);have C0:=I (show C7 w1 w2 by rw[hw2];exact WU);go_upto_region 5 with fail;rw[<-hw2];clear hw2;have⟨r,hr⟩:=e9 w1.heap.size;have HRG:=I (show w1.heap.size<=r by rw[hr];exact i8 _);rw[<-hr]at Fy⊢;clear hr;go_wp2
  go_loopg [6,20] n1 (λgk tt kk wr=>∃(k:Nat) (a4:l9) (n4 c4:Nat) (A:List (List UInt8)) (p:Int) (V:o3) (X:l7) (a:l9) (n cap:Nat) (b:l9) (m dap:Nat),b9 (gk+k=n1)/\tt=GI a4 n4 c4/\kk=U k/\b9 (Ic L k=(⟨p,V,X⟩,A))/\b9 (A5 A9 9 wr w1 (GI a4 n4 c4) A)/\b9 (C8 wr r (U p) (GI a n cap) (GI b m dap))/\b9 (aK wr w a n cap b m dap V X)/\b9 (C7 w1 wr))
  ·exact⟨0,_,_,_,[],0,[],[],_,_,_,_,_,_,I j0,rfl,rfl,I rfl,I (A5.D2 A9 9 w2 w1 _ rfl C0.size),I (WU.blk Fy),I ⟨C1,qj⟩,I (C0.trans WU)⟩
  obtain⟨k,a4,n4,c4,A,p,V,X,a,n,cap,b,m,dap,HK,rfl,rfl,Fq,HA,HB,HO,HX⟩:=hrel;by_cases hlt:k<n1
  ·obtain⟨lb,lo,x0,rfl,L4,D1⟩:=(Is.ext HX).at hlt;have q0:wr.cell? (O lb (lo+k))=some (aE (bs x0)):=by simpa[A9]using D1 0 _ rfl
   have⟨⟨E6,Ew⟩,Oq⟩:=DO.o k;rw[Fq.o]at E6 Ew Oq;have HAL:=I (show JL A<=60 by have:JL A=k:=Oq;omega);have OB:=I (vh (w:=wr) (p:=p) HO.v.ints HO.x.rats (by rw[<-HO.v.ints.hlen];exact E6) (by rw[<-HO.x.rats.hlen];exact Ew) (ec HTB.o (A0.trans HX)) (HML.ext (A0.trans HX)) x0 (Oa x0 (RU L4)))
   have Np:=I (show Ic L (k+1)=((dt ⟨p,V,X⟩ x0).1,A++[(dt ⟨p,V,X⟩ x0).2])by
    show((dt (Ic L k).1 (L[k]?.getD [])).1,(Ic L k).2++[(dt (Ic L k).1 (L[k]?.getD [])).2])=_;rw[Fq.o,L4];rfl)
   obtain⟨⟨⟨p5,V5,X5⟩,t5⟩,hR⟩:∃R,R=dt ⟨p,V,X⟩ x0:=⟨_,rfl⟩;rw[<-hR]at OB Np;generalize bs x0=u0 at q0 OB;have⟨c0,c1,c2,cf⟩:=C8.c HB.o;have G4:=Rd k n1;clear D1 L4 hR E6 Ew Oq;go_wp2_with fail;refine OB.mono ?_;rintro e w4 ⟨⟨a5,n5,k5,b5,m5,d5,rfl,ho⟩,hx⟩;have⟨w5,Fc⟩:=e9 (w4.alloc (QD #[U p5,GI a5 n5 k5,GI b5 m5 d5] 34));have e45:C7 w4 w5:=by rw[Fc];exact WU
   refine Op (hx.trans e45) ((ho.mono (A0.trans HX).size).ext e45) (show C8 w5 w4 (U p5) (GI a5 n5 k5) (GI b5 m5 d5)by rw[Fc];exact IO rfl) ((hx.trans e45).blk HB) λFV DT Ek JR=>?_;have⟨t0,R7⟩:=GT (bs t5);go_upto_region 10 with fail;rw[<-Fc,<-R7.o];clear Fc hx ho e45 c0 c1 c2 cf q0;generalize w4.heap.size=g5 at Ek⊢;have⟨d0,d1,d2,df⟩:=C8.c Ek.o;have⟨c0,c1,c2,cf⟩:=C8.c JR.o;have⟨w6,GD⟩:=e9 (((w5.setCell (O r 0) (U p5)).setCell (O r 1) (GI a5 n5 k5)).setCell (O r 2) (GI b5 m5 d5));exact Qh
  have qq0:=@results5;exact Og
 have hng:=Rd 60 n1;have HBF:=I (Gf.trans (Ok hn));have HZ:=I (show Z=[]by rw[Kk.o,HN1.o,f7 hn]);go_wp2;refine Fn (v:=.tuple #[d6,bl false]) (by simp[results,results5,go_sem]) rfl ⟨⟨_,by rw[HBF.o],by rw[HZ.o];exact A5.nil _ _ _ _⟩,A0⟩
end Go.Proofs.YtooiaklfmodcbaaGreatDoor
namespace Go.Proofs.YtooiaklfmodcbaaGreatDoor
open Ending renaming returned->ar
open List renaming length->JL
open Obj renaming cells->QD
open Value renaming slice->GI,bool->bl,string->aE,pointer->aP
set_option maxHeartbeats 6000000
set_option maxRecDepth 100000
open Go.RowKit
section
variable{w:J}{p:Int}{a b:l9}{n cap m dap:Nat}{V:o3}{X:l7}{base:Nat}
theorem BC(hV:d9 w a n cap V)(hX:i6 w b m dap X):f8 51 #[sess p a n cap b m dap] w (aE (bs (oF ⟨p,V,X⟩))):=by
 have HC:oF ⟨p,V,X⟩=(match fA p V X with|none=>Nw|some r=>Lib.join (D' r.1::r.2.map λc=>bJ c) [32]):=rfl;generalize oF ⟨p,V,X⟩=Z at HC⊢;have⟨W,hW⟩:=e9 (w.alloc (QD #[U p,GI a n cap,GI b m dap] 34));have Ha:=I (show C7 w W by rw[hW];exact WU);have HB:=I (show C8 W w (U p) (GI a n cap) (GI b m dap)by rw[hW];exact IO rfl);have HV:=I (hV.ext Ha);have ab:=I (hX.ext Ha);have Mo:=vG (p:=p) HV.o ab.o;unfold WG at Mo;obtain⟨x,y,C,B,Ff,Gn,HCD⟩:∃(x y:Int) (C:o3) (B:Bool),b9 (Calls Tryz.prog 117 #[FS p a n cap,GI b m dap] W λe w'=>(∃v,e=ar (.tuple #[EF x y,v,bl B])/\r' w' W v C)/\C7 W w')/\b9 (Z=if B=true then Lib.join (D' (x,y)::C.map λc=>bJ c) [32] else Nw)/\b9 (B=true->(∀c∈C,∃s:Nat,s<32/\c=s)/\JL C<=32):=by
  cases hr:fA p V X with
  | none=>rw[hr]at Mo HC;exact⟨0,0,[],false,I Mo,I HC,I (λh=>by cases h)⟩
  | some r=>rw[hr]at Mo HC;exact⟨r.1.1,r.1.2,r.2,true,I Mo,I HC,I (λ_=>vd hr)⟩
 clear Mo HC;have⟨c0,c1,c2,cf⟩:=C8.c HB.o;clear hV hX;unfold f8;go_in
 go_upto_region 1 with fail;rw[<-hW];clear hW;go_wp2_with fail;refine PP Ff λw1 v ho hx=>?_;obtain⟨pa,pn,pc,rfl,HN⟩:=ho.var;refine t8 (ho.ints.ext (C7.alloc w1 (QD #[U x,U y] 56))) (ah.new (C7.refl w1) x y) ((Ha.trans hx).trans (C7.alloc w1 (QD #[U x,U y] 56))) λHI EC C0=>?_;have⟨w2,E⟩:=e9 (w1.alloc (QD #[U x,U y] 56));rw[<-E]at HI EC C0;go_upto_region 2 with fail;rw[<-E];clear E ho c0 c1 c2 cf;generalize w1.heap.size=g at EC⊢;cases B
 case' false =>
  have HA:b9 (Z=Nw):=Gn.trans rfl;go_wp2;go_ret;exact⟨cj (by rw[HA.o];rfl),C0⟩
 case' true =>
  have HA:b9 (Z=Lib.join (D' (x,y)::C.map λc=>bJ c) [32]):=Gn.trans rfl;have⟨SH,LF⟩:=HCD.o rfl;have Um:=I SH;have Pq:=I (lE (w:=w2) x y);have J9:=qt (x,y);have q0:=EC.c0;have q1:=EC.c1;have hpn:pn<=32:=k8 HN.o;have⟨ahZ,ahp⟩:=HI.aq9;generalize D' (x,y)=K at Pq J9 HA;have⟨u0,KZ⟩:=e9 (bs K);rw[<-KZ]at Pq;have HU0:=I (show u0=bs (Lib.join (K::(C.take 0).map λc=>bJ c) [32])by rw[KZ];simp[tg]);have Qd:=I (show u0.size<=50 by rw[KZ,aY];exact J9);clear LF SH KZ J9 Gn;go_wp2_with fail;refine i7 Pq λw3 hx=>?_;have Yx:=I (HI.ext hx);have A8:=I (C0.trans hx);clear q0 q1;go_wp2
  go_loopg [6,7] pn (λgk tt kk wr=>∃(k:Nat) (u:ByteArray),b9 (gk+k=pn)/\tt=aE u/\kk=U k/\b9 (u=bs (Lib.join (K::(C.take k).map λc=>bJ c) [32]))/\b9 (u.size<=50+6*k)/\b9 (C7 w3 wr))
  ·exact⟨0,u0,I j0,rfl,rfl,HU0,I (k8 Qd.o),I WF⟩
  obtain⟨k,u,HK,rfl,rfl,HE,HS,HX⟩:=hrel;have PE:=ST k;by_cases hlt:k<pn
  ·have G4:=Rd k pn;obtain⟨lb,lo,rfl,D1⟩:=(Yx.ext HX).at hlt;have hkC:k<JL C:=by rw[HN.o];exact hlt
   have G:=Id hkC;have⟨s,hs,RJ⟩:=Um.o C[k] (eN _);have hJ:Lib.join (K::(C.take (k+1)).map λc=>bJ c) [32]=Lib.join (K::(C.take k).map λc=>bJ c) [32]++([32]++bJ (s:Int)):=by
    rw[Yg,G,sr,<-RJ];exact VM _ _ _
   rw[G,Nm,RJ]at D1;have PW:=I (λ(w':J)=>gW (w:=w') s hs);have htl:=jr (s:Int);have⟨tc,ML⟩:=e9 (bs (bJ (s:Int)));have hts:tc.size<=5:=by rw[ML,aY];exact htl
   have Y7:=I (show u++{ data:=#[32] }++tc=bs (Lib.join (K::(C.take (k+1)).map λc=>bJ c) [32])by
    rw[hJ,HE.o,ML];show bs _++bs [32]++bs _=_;rw[ch,ch,yf])
   have hus:=HS.o;have GJ:=I (show(u++{ data:=#[32] }++tc).size<=50+6*(k+1)by
    rw[ByteArray.size_append,ByteArray.size_append];show u.size+1+tc.size<=_;omega)
   have Li:¬9223372036854775807<u.size+1:=j0;have J6:¬9223372036854775807<u.size+1+tc.size:=j0;simp only[<-ML]at PW;clear G RJ ML hkC hJ htl hts hus;go_wp2_with fail;refine i7 (PW _) λw4 hx=>?_;have X4:=I (HX.trans hx);clear D1;go_wp2_with fail;refine er ?_;exact⟨k+1,_,I (k8 HK.o),rfl,by go_num,Y7,GJ,X4⟩
  have DV:k=pn:=k8 HK.o;have aa:b9 (C.take k=C):=bR (by rw[HN.o];omega);rw[aa.o]at HE;have G4:¬(k:Int)<(pn:Int):=j0;clear DV;have qq0:=@cj;exact YF
theorem su(hV:d9 w a n cap V)(X:l7):f8 52 #[FS p a n cap] w (aE (bs (rP ⟨p,V,X⟩))):=by
 have⟨W,hW⟩:=e9 (w.alloc (QD #[U p,GI a n cap] 31));refine t8 (show C7 w W by rw[hW];exact WU) (show W.cell? (O w 0)=some (U p)by rw[hW];simp) (show W.cell? (O w 1)=some (GI a n cap)by rw[hW];simp) λHa G0 G1=>?_;have HV:=I (hV.ext Ha);refine t8 (λ(w':J) (hx:C7 W w')=>Bu (p:=p) (HV.ext hx)) (λ(w':J) (hx:C7 W w')=>ZH (p:=p) (HV.ext hx)) (λ(w':J) (hx:C7 W w')=>Dj (p:=p) (HV.ext hx)) λH1 H2 H3=>?_;have OY:=show lq ⟨p,V,X⟩=(if dd 1 p V=true then [[109,111,110,111,116,111,110,101]] else [])++((if dd 2 p V=true then [[115,117,112,101,114,97,100,100,105,116,105,118,101]] else [])++(if dd 3 p V=true then [[99,111,110,118,101,120]] else []))from rfl
 have hz:rP ⟨p,V,X⟩=if lq ⟨p,V,X⟩=[] then [110,111,110,101] else Lib.join (lq ⟨p,V,X⟩) [32]:=rfl
 generalize rP ⟨p,V,X⟩=Z at hz⊢;rw[OY]at hz;have⟨k1,Gj⟩:=e9 (dd 1 p V);have⟨k2,o7⟩:=e9 (dd 2 p V);have⟨k3,JH⟩:=e9 (dd 3 p V);simp only[<-Gj]at H1;simp only[<-o7]at H2;simp only[<-JH]at H3;rw[<-Gj,<-o7,<-JH]at hz;have HPZ:=I hz;clear Gj o7 JH OY hz hV;unfold f8;go_in
 have⟨v0,KH⟩:=e9 (W.alloc (QD #[] 9));have A8:=I (show C7 W v0 by rw[KH];exact WU);have Nr:=I (show A5 A9 9 v0 W (EQ W 0 0) []by rw[KH];exact A5.D2 A9 9 W W _ rfl (i8 _));go_upto_region 1 with fail;rw[<-hW];clear hW;go_upto_region 2 with fail;rw[<-KH];clear KH;have g0:=A8.o6 G0.o;have g1:=A8.o6 G1.o
 go_upto_if 6 with(go_at_call 118;refine i7 (H1 _ A8) λw1 hx=>?_)
 have XA1:=I ((show C7 W _ from A8).trans hx);have Ee:=I (Nr.ext hx);go_cut [3] (λv K=>∃(b4:l9) (m4 c4:Nat) (L:List (List UInt8)),v=GI b4 m4 c4/\b9 (A5 A9 9 K W (GI b4 m4 c4) L)/\b9 (L=[]++(if k1=true then [[109,111,110,111,116,111,110,101]] else []))/\b9 (C7 W K))
 case first =>
  cases k1 with
  | false =>
    exact Oq
  | true =>
    exact Sx
 obtain⟨b1,m1,e1,L1,rfl,Me,QR,A0⟩:=hcut;have⟨v1,JD⟩:=e9 wc;subst JD;have HN1:=I (show JL L1<=1 by rw[QR.o,SW];split<;>simp);clear g0 g1;have g0:=A0.o6 G0.o;have g1:=A0.o6 G1.o;go_upto_if 11 with(go_at_call 119;refine i7 (H2 _ A0) λw2 hx=>?_)
 have XA2:=I ((show C7 W _ from A0).trans hx);have Fy:=I (Me.ext hx);go_cut [3] (λv K=>∃(b4:l9) (m4 c4:Nat) (L:List (List UInt8)),v=GI b4 m4 c4/\b9 (A5 A9 9 K W (GI b4 m4 c4) L)/\b9 (L=L1++(if k2=true then [[115,117,112,101,114,97,100,100,105,116,105,118,101]] else []))/\b9 (C7 W K))
 case first =>
  cases k2 with
  | false =>
    exact Y7
  | true =>
    exact YC
 obtain⟨b2,m2,e2,L2,rfl,HL2,GB,C0⟩:=hcut;have⟨v2,MK⟩:=e9 wc;subst MK;have Hb:=I (show JL L2<=2 by rw[GB.o,SW];have:=HN1.o;split<;>simp<;>omega);clear g0 g1;have g0:=C0.o6 G0.o;have g1:=C0.o6 G1.o;go_upto_if 16 with(go_at_call 120;refine i7 (H3 _ C0) λw3 hx=>?_)
 have XA3:=I ((show C7 W _ from C0).trans hx);have En:=I (HL2.ext hx);go_cut [3] (λv K=>∃(b4:l9) (m4 c4:Nat) (L:List (List UInt8)),v=GI b4 m4 c4/\b9 (A5 A9 9 K W (GI b4 m4 c4) L)/\b9 (L=L2++(if k3=true then [[99,111,110,118,101,120]] else []))/\b9 (C7 W K))
 case first =>
  cases k3 with
  | false =>
    exact S0
  | true =>
    exact Hm
 obtain⟨b3,m3,e3,L3,rfl,Oz,Pr,B7⟩:=hcut;have⟨v3,Tg⟩:=e9 wc;subst Tg;have LK:=I (show JL L3<=3 by rw[Pr.o,SW];have:=Hb.o;split<;>simp<;>omega);clear g0 g1;have g0:=B7.o6 G0.o;have g1:=B7.o6 G1.o;have Gn:=I (show Z=if L3=[] then [110,111,110,101] else Lib.join L3 [32]by
  have h:=HPZ.o;rw[<-yf,<-Qu (if k1=true then _ else _),<-QR.o,<-GB.o,<-Pr.o]at h;exact h)
 have LF:=Oz.Hr.hlen;have X1:=I (Ha.trans B7);by_cases h0:m3=0
 ·subst h0;have HR:=I (Gn.trans (by rw[f9 (QX LF)]));clear LF;have qq0:=@cj;exact b8
 have hne:((m3:Int) == 0)=false:=m9;have HR:=I (show Z=Lib.join L3 [32]by rw[Gn.o,f7 (λe=>h0 (by rw[<-LF,e];rfl))]);have hm3:m3<=3:=k8 LK.o;have S4:=I (xJ Oz.o [32] j0 (by
  have:=ms (L:=L3) (m:=50) (λz hz=>by
   rw[Pr.o,GB.o,QR.o]at hz;simp only[Qu,Wn,List.mem_ite_nil_right,Se]at hz;rcases hz with(⟨_,rfl⟩|⟨_,rfl⟩)|⟨_,rfl⟩<;>decide)
  simp only[nR,Pb];omega))
 have⟨tj,Y8⟩:=GT (bs (Lib.join L3 [32]));rw[<-Y8.o]at S4;clear LF h0;go_wp2_with fail;refine i7 S4 λw5 hx=>?_;have X5:=I (X1.trans hx);go_wp2;go_ret;exact⟨cj (by rw[Y8.o,HR.o]),X5⟩
end
section
variable{w:J}{p:Int}{a b:l9}{n cap m dap:Nat}{V:o3}{X:l7}{base:Nat}
theorem UY(hV:d9 w a n cap V)(hX:i6 w b m dap X)(t:List UInt8)(hi:5<=So t):f8 23 #[sess p a n cap b m dap,aE (bs t)] w (aE (bs (Fz ⟨p,V,X⟩ (So t)).2)):=by
 have hl:=oM t;obtain⟨_,_,_,_,_,e5,e6,e7,e8⟩:=w9 t;generalize So t=i at e5 e6 e7 e8 hi hl⊢;have⟨Z,K⟩:=GT ((Fz ⟨p,V,X⟩ i).2);rw[<-K.o];generalize bs t=tt at e5 e6 e7 e8⊢;have⟨W,hW⟩:=e9 (w.alloc (QD #[U p,GI a n cap,GI b m dap] 34));have X1:=I (show C7 w W by rw[hW];exact WU);have HB:=I (show C8 W w (U p) (GI a n cap) (GI b m dap)by rw[hW];exact IO rfl);have HV:=I (hV.ext X1);have HX:=I (hX.ext X1);have⟨c0,c1,c2,cf⟩:=C8.c HB.o;clear hV hX;unfold f8;go_in
 go_upto_region 1 with fail;rw[<-hW];clear hW;obtain rfl|rfl|rfl|rfl|rfl:i=5∨i=6∨i=7∨i=8∨i=9:=j0
 all_goals simp only[Nat.reduceBEq]at e5 e6 e7 e8
 case' inl =>
  have E:=Bx (p:=p) HV.o HX.o;rw[<-show Z=nz ⟨p,V,X⟩from K.o]at E
 case' inr.inl =>
  have E:=BC (p:=p) HV.o HX.o;rw[<-show Z=oF ⟨p,V,X⟩from K.o]at E
 case' inr.inr.inl =>
  have E:=su (p:=p) HV.o X;rw[<-show Z=rP ⟨p,V,X⟩from K.o]at E
 case inr.inr.inr.inr =>
  have HR:b9 (Z=fG):=K;have qq0:=@cj;exact b8
 case inr.inr.inr.inl =>
  have HR:=show Z=Lib.join (DR 10 (if ak p V=true then ed p.toNat V else [])) [59]from K
  have hf:=yZ (p:=p) HV.o;have JK:JL (if ak p V=true then ed p.toNat V else [])<=2000:=by
   split
   ·exact wf _ _
   exact gi _
  have⟨G,hG⟩:=e9 (if ak p V=true then ed p.toNat V else []);rw[<-hG]at HR hf JK;refine t8 HR (λ(w':J)=>jm (w:=w') G 10 j0) JK λHZ2 Yh QQ=>?_;have⟨tg,YN⟩:=e9 (bs G);rw[<-YN]at hf;simp only[<-YN]at Yh;have HF:=I hf;clear hG YN HR hf JK;go_wp2_with fail;refine i7 HF λw1 hx=>?_;have A0:=I (X1.trans hx);go_wp2_with fail;refine E9 (Yh _) λw2 v ho hx=>?_;obtain⟨pa,pn,pc,rfl,HN⟩:=ho.var;have C0:=I (A0.trans hx);have F0:JL (Lib.join (DR 10 G) [59])<=2000:=by rw[VL (c:=59) (d:=10),nZ];exact QQ
  have HJ:=I (xJ ho [59] (by have h1:=HN.o;have h2:=lw 10 G;have h3:=QQ.o;omega) (by simp only[nR,Pb];omega));rw[<-HZ2.o]at HJ;have⟨tj,Y8⟩:=GT (bs Z);rw[<-Y8.o]at HJ;clear F0 hx ho;go_wp2_with fail;refine i7 HJ λw3 hx=>?_;have B7:=I (C0.trans hx);go_wp2;go_ret;exact⟨cj Y8.o,B7⟩
 all_goals
  have⟨tj,Nb⟩:=e9 (bs Z);have Y8:=I Nb;rw[<-Nb]at E;have EO:=I E;clear Nb E;go_wp2_with fail;refine i7 EO λw1 hx=>?_;have A0:=I (X1.trans hx);go_wp2;go_ret;exact⟨cj Y8.o,A0⟩
def XA{P:Prop}(h:P:=by
 go_wp2;refine Fn (by simp[results,Wa,go_sem,r0,r1,r2,rf,z0,z1,z2]<;>rfl) rfl ⟨DJ.of (aa.o) rfl HZ.o,XZ⟩
 ):P:=h
theorem BA(hV:d9 w a n cap V)(hX:i6 w b m dap X)(hn:n<=1048576)(hm:m<=1048576)(c v:List UInt8):Calls Tryz.prog 18 #[sess p a n cap b m dap,aE (bs c),aE (bs v)] w λe w'=>DJ w' w e (ft ⟨p,V,X⟩ c v)/\C7 w w':=by
 have⟨W,hW,HT,HV,HX,Uh,⟨c0,c1,c2,cf⟩,r0,r1,r2,rf⟩:=lA p hV hX;have O8:=I (λ(w':J) (hx:C7 W w')=>hU (p:=p) (HV.ext hx) (HX.ext hx) hn hm);have⟨Z,IY⟩:=GT (ft ⟨p,V,X⟩ c v);rw[<-IY.o];refine af (λ(w':J) (hx:C7 w w')=>hU (p:=p) (hV.ext hx) (hX.ext hx) hn hm) (qA (w:=W) c) (λ(w':J)=>mM (w:=w') v) (λh=>IY.trans (pJ (s:=⟨p,V,X⟩) (c:=c) (v:=v) h)) (λt x h1 h2=>IY.trans (pK (s:=⟨p,V,X⟩) (c:=c) (v:=v) (t:=t) (x:=x) h1 h2)) (show∀s,Ja c=some s->s<32 from λs h=>zK h) HV.hlen λS7 Pp Lb Hp Ty abC HVL=>?_;have⟨MJ,hvm⟩:=HV.aq9;have LJ:=I hn;have⟨tc,ML⟩:=e9 (bs c);have⟨tv,htv⟩:=e9 (bs v);rw[<-ML]at Pp⊢;simp only[<-htv]at Lb;rw[<-htv];have⟨rc,LU⟩:=e9 (Ja c);have⟨ri,hri⟩:=e9 (di v);simp only[<-LU]at Pp Hp Ty abC;simp only[<-hri]at Lb Hp Ty;clear ML htv LU hri;clear hV hX hn hm;go_in
 go_upto_region 1 with fail;rw[<-hW];clear hW;obtain⟨ci,hci⟩:∃y:Int,y=((rc.getD 0:Nat):Int):=⟨_,rfl⟩;obtain⟨xi,hxi⟩:∃y:Int,y=ri.getD 0:=⟨_,rfl⟩;have⟨cb,Um⟩:=GT rc.isSome;have⟨xb,Ov⟩:=GT ri.isSome;rw[<-hci,<-Um.o]at Pp;simp only[<-hxi,<-Ov.o]at Lb;have HCI:=I hci;have HXI:=I hxi;clear hci hxi;go_wp2_with fail;refine i7 Pp λw1 A0=>?_;go_wp2_with fail;refine i7 (Lb _) λw1b hx=>?_;have A0:=I (A0.trans hx);clear c0 c1 c2 cf r0 r1 r2 rf;have⟨c0,c1,c2,cf⟩:=(HT.ext A0).s.c;have⟨r0,r1,r2,rf⟩:=(HT.ext A0).r.c;go_wp2_with fail;refine(O8 _ A0).mono ?_;rintro e w2 ⟨⟨a1,n1,k1,b1,m1,d1,rfl,ho⟩,hx⟩;refine Op (show C8 (w2.alloc (QD #[U p,GI a1 n1 k1,GI b1 m1 d1] 34)) w2 (U p) (GI a1 n1 k1) (GI b1 m1 d1)from IO rfl) ((A0.trans hx).trans (C7.alloc w2 (QD #[U p,GI a1 n1 k1,GI b1 m1 d1] 34))) ((ho.mono (HT.ext A0).x.size).ext (C7.alloc w2 (QD #[U p,GI a1 n1 k1,GI b1 m1 d1] 34))) (show w.heap.size+1<w2.heap.size from Pw (In (HT.ext A0).r) hx.size) λEn B7 E Ns=>?_
 have⟨w3,E8⟩:=e9 (w2.alloc (QD #[U p,GI a1 n1 k1,GI b1 m1 d1] 34));rw[<-E8]at En B7 E;go_upto_region 4 with fail;rw[<-E8];clear E8 hx ho c0 c1 c2 cf r0 r1 r2 rf;generalize w2.heap.size=G at En Ns⊢;have K:=I (HT.ext B7);have⟨d0,d1',d2,df⟩:=C8.c En.o;have⟨c0,c1,c2,cf⟩:=K.s.c;have⟨r0,r1,r2,rf⟩:=K.r.c;cases rc with
 | none =>
   have Pn:=I (Hp (.inl rfl));obtain rfl:cb=false:=Um.o;have⟨z0,z1,z2,HZ,XZ⟩:=K.Eg E.o (p);have qq0:=@Wa;exact yB
 | some t =>
   obtain rfl:cb=true:=Um.o;obtain rfl:ci=(t:Int):=HCI.o;have ht32:=abC.o t rfl;cases ri with
   | none =>
     have Pn:=I (Hp (.inr rfl));obtain rfl:xb=false:=Ov.o;have⟨z0,z1,z2,HZ,XZ⟩:=K.Eg E.o (p);have qq0:=@Wa;exact yB
   | some x =>
     obtain rfl:xb=true:=Ov.o;obtain rfl:xi=x:=HXI.o;have HY:=I (Ty t xi rfl rfl);have hnw:IntKind.i64.wrap ((n:Int)-1)=(n:Int)-1:=by have:=LJ.o;rw[mn];omega
     have⟨B,hB⟩:=e9 (A4 (t:Int) 1 ((n:Int)-1));have Hl:=I (λ(w':J)=>bj (t:Int) 1 ((n:Int)-1) w');simp only[<-hB]at Hl;have Od:=I (show B=true->1<=t/\t<n by rw[hB];unfold A4;intro h;simp at h;omega);have HBF:=I (show B=false->¬(1<=t/\t<n)by rw[hB];unfold A4;intro h;simp at h;omega);clear hB;cases B with
     | false =>
       have Pn:=I (HY.trans (f7 (λq=>HBF.o rfl ⟨q.1,by have:=q.2.1;rw[<-HVL.o];exact this⟩)));go_wp2_with fail;refine(Hl _).mono ?_;rintro e w4 ⟨rfl,rfl⟩;have⟨z0,z1,z2,HZ,XZ⟩:=K.Eg E.o (p);have qq0:=@Wa;exact yB
     | true =>
       have⟨Og,Wb⟩:=Od.o rfl;have FT:n1=n:=by rw[<-E.v.ints.hlen,HVL.o]
       subst FT;obtain⟨gv,rfl,Jd,WE,JK⟩:=E.v.block Wb;have⟨hcv,K3⟩:=E.v.ints.aq9;have hft:=WE t;have NI:=E.v.GG.2.2.2 t Wb;have YS:G≠gv:=λe=>by
        have:=En.o;rw[e]at this;exact aq E.v this Fd rfl
       have hB4:C8 (w3.setCell (O gv t) (U xi)) G (U p) (EQ gv n1 k1) (GI b1 m1 d1):=(GE w3 (O gv t) G _ YS).trans En.o;have⟨y0,y1,y2,yf⟩:=C8.c hB4;have⟨w5,Fc⟩:=e9 ((w3.setCell (O gv t) (U xi)).setCell (O G 2) d6);refine t8 (show C8 w5 G (U p) (EQ gv n1 k1) d6 by rw[Fc];exact C8.Ta hB4 _) (show aK w5 w (some (O gv 0)) n1 k1 none 0 0 (V.set t xi) []by rw[Fc];exact⟨bg (E.v.set t xi) hB4 Fd,qj⟩) (show C7 w w5 by rw[Fc];exact(K.x.store (b:=gv) t Jd _).store (b:=G) 2 (k8 Ns.o) _) λEk DT FV=>?_
       have JR:=I (show C8 w5 (w+1) (U 0) d6 (d6)by
        rw[Fc];have PF:w.heap.size+1≠gv:=λe=>by
         have:=K.r;rw[e]at this;exact aq E.v this Fd rfl
        exact(GE _ _ _ _ (by have:=Ns.o;simp;omega)).trans ((GE _ _ _ _ PF).trans K.r))
       have JP:=I (show C8 w5 w (U p) (GI a n1 cap) (GI b m dap)by
        rw[Fc];have PF:w.heap.size≠gv:=λe=>by
         have:=K.s;rw[e]at this;exact aq E.v this Fd rfl
        exact(GE _ _ _ _ (by have:=Ns.o;simp;omega)).trans ((GE _ _ _ _ PF).trans K.s))
       have Ki:b9 (cq w w5 p a n1 cap b m dap):=I ⟨FV,JP,JR⟩;have Qf:=I (bY (w:=w5) (p:=p) DT.v.ints);have⟨ok,DL⟩:=e9 (ak p (V.set t xi));rw[<-DL]at Qf;have aa:=I (show Z=if ok=true then(⟨p,V.set t xi,[]⟩,Zs) else(⟨p,V,X⟩,Nw)by
        rw[HY.o,DL];by_cases h:ak p (V.set t xi)=true
        ·rw[f9 ⟨Og,by rw[HVL.o];omega,h⟩,f9 h]
        rw[f7 (λq=>h q.2.2),f7 h])
       go_wp2_with fail;refine(Hl _).mono ?_;rintro e w4 ⟨rfl,rfl⟩;go_upto_region 8 with fail;rw[<-Fc];clear Fc DL hB4 y0 y1 y2 yf d0 d1' d2 df hft WE NI c0 c1 c2 cf r0 r1 r2 rf;have⟨d0,d1',d2,df⟩:=C8.c Ek.o;go_wp2_with fail;refine i7 Qf λw6 hx=>?_;refine t8 (Ki.ext hx) (DT.ext hx) (hx.blk Ek) λSV EP I'=>?_;clear d0 d1' d2 df;have⟨d0,d1',d2,df⟩:=C8.c I'.o;have⟨c0,c1,c2,cf⟩:=SV.s.c;cases ok with
       | false =>
         go_wp2_with fail;refine(S7 _ SV.x).mono ?_;rintro e w7 ⟨⟨a7,n7,k7,b7,m7,d7,rfl,ho⟩,hx⟩;have R6:=I (SV.ext hx);have II:=I (ho.mono SV.x.size);clear hx ho c0 c1 c2 cf;have⟨r0,r1,r2,rf⟩:=R6.r.c;have⟨z0,z1,z2,HZ,XZ⟩:=R6.Eg II.o (p);exact XA
       | true =>
         have⟨r0,r1,r2,rf⟩:=SV.r.c;have⟨z0,z1,z2,HZ,XZ⟩:=SV.Eg EP.o (p);exact XA
theorem zf(hV:d9 w a n cap V)(hX:i6 w b m dap X)(hn:n<=1048576)(hm:m<=1048576){la:l9}{K lc:Nat}{L:List (List UInt8)}(hl:GL A9 w la K lc L)(Oo:∀x∈L,JL x<=1048576)(hln:JL L<=1048576):Calls Tryz.prog 19 #[sess p a n cap b m dap,GI la K lc] w λe w'=>DJ w' w e (fW ⟨p,V,X⟩ L)/\C7 w w':=by
 have⟨W,hW,HT,HV,HX,Uh,⟨c0,c1,c2,cf⟩,r0,r1,r2,rf⟩:=lA p hV hX;have O8:=I (λ(w':J) (hx:C7 W w')=>hU (p:=p) (HV.ext hx) (HX.ext hx) hn hm);have⟨Z,IY⟩:=GT (fW ⟨p,V,X⟩ L);rw[<-IY.o];refine ns (show Z=(match ME L with|none=>(⟨p,V,X⟩,Nw)|some Y=>(⟨p,V,Y⟩,if EG p V Y=true then [121,101,115] else [115,117,109]))from IY) (hl.ext HT.x) (show JL L=K from hl.hlen) Oo (λ(w':J) (hx:C7 w w')=>hV.ext hx) λY9 Is HN1 Oa HVW=>?_;have hnl:K<=1048576:=by rw[<-hl.hlen];exact hln
 have⟨Lq,Lm⟩:=hl.aq9;clear hl Oo hln;clear hV hX hn hm;go_in
 go_upto_region 1 with fail;rw[<-hW];clear hW;go_wp2_with fail;refine(O8 _ WF).mono ?_;rintro e w2 ⟨⟨a1,n1,k1,b1,m1,d1,rfl,ho⟩,hx⟩;refine Op (show C8 (w2.alloc (QD #[U p,GI a1 n1 k1,GI b1 m1 d1] 34)) w2 (U p) (GI a1 n1 k1) (GI b1 m1 d1)from IO rfl) (hx.trans (C7.alloc w2 (QD #[U p,GI a1 n1 k1,GI b1 m1 d1] 34))) ((ho.mono Uh).ext (C7.alloc w2 (QD #[U p,GI a1 n1 k1,GI b1 m1 d1] 34))) (show w.heap.size+1<w2.heap.size from Pw (In HT.r) hx.size) λEn B7 B9 Ns=>?_;have⟨w3,E8⟩:=e9 (w2.alloc (QD #[U p,GI a1 n1 k1,GI b1 m1 d1] 34));rw[<-E8]at En B7 B9;go_upto_region 2 with fail;rw[<-E8];clear E8 hx ho c0 c1 c2 cf r0 r1 r2 rf;generalize w2.heap.size=G at En Ns⊢;have Fu:=I (HT.ext B7);have⟨d0,E,d2,df⟩:=C8.c En.o;have⟨c0,c1,c2,cf⟩:=Fu.s.c;have⟨r0,r1,r2,rf⟩:=Fu.r.c;have HW:=I (show∀wr,C7 w3 wr->cq w wr p a n cap b m dap/\aK wr w a1 n1 k1 b1 m1 d1 V X/\C8 wr G (U p) (GI a1 n1 k1) (GI b1 m1 d1)from λwr h=>⟨Fu.ext h,B9.ext h,h.blk En.o⟩);clear c0 c1 c2 cf r0 r1 r2 rf d0 E d2 df;go_wp2
 go_loopg [7,8] K (λgk pp ii wr=>∃(k:Nat) (a4:l9) (n4 c4:Nat) (P:l7),b9 (gk+k=K)/\ii=U k/\pp=GI a4 n4 c4/\b9 (LE (λk=>Ky (L[k]?.getD [])) k=some P)/\b9 (WV wr w3 (GI a4 n4 c4) P)/\b9 (C7 w3 wr))
 ·exact⟨0,_,_,_,[],I j0,rfl,rfl,I rfl,I (WV.made _ _ (i8 _)),I WU⟩
 obtain⟨k,a4,n4,c4,P,HK,rfl,rfl,Kj,Jn,GV⟩:=hrel;have PE:=ST k;by_cases hlt:k<K
 ·obtain⟨lb,lo,x0,rfl,L4,D1⟩:=(Is.ext (B7.trans GV)).at hlt;have q0:wr.cell? (O lb (lo+k))=some (aE (bs x0)):=by simpa[A9]using D1 0 _ rfl
  have HPR:=I (Bv (w:=wr) x0 (k8 (Oa x0 (RU L4))));have Ro:=I (show(λk=>Ky (L[k]?.getD [])) k=Ky x0 by simp only[L4,Nm]);generalize Ky x0=R at HPR Ro;generalize bs x0=t0 at q0 HPR;have G4:=Rd k K;clear D1 L4;cases R with
  | none =>
    have Pn:=I (show Z=(⟨p,V,X⟩,Nw)by
     rw[Y9.o,show ME L=none from by unfold ME;exact fs Kj.o Ro.o (k8 HN1.o)])
    go_wp2_with fail;refine i7 HPR λw4 DN=>?_;have FV:=I ((GV.trans DN).trans (C7.alloc w4 (QD #[U 0,U 0] 56)));have⟨w5,Fc⟩:=e9 (w4.alloc (QD #[U 0,U 0] 56));rw[<-Fc]at FV;go_upto_region 7 with fail;rw[<-Fc];clear Fc q0;have⟨t5,o5,g5⟩:=HW.o _ FV.o;have Fh:=I t5;have Ec:=I o5;have⟨d0,E,d2,df⟩:=C8.c g5;have⟨r0,r1,r2,rf⟩:=t5.r.c;clear t5 o5 g5;have⟨z0,z1,z2,HZ,XZ⟩:=Fh.Eg Ec.o (p);have qq0:=@RY;exact yB
  | some xy =>
    obtain⟨x,y⟩:=xy;have Yo:=I (ea Kj.o Ro);have I8:=I (cX Kj);go_wp2_with fail;refine i7 HPR λw4 DN=>?_;have Ek:b9 (ah wr (w4.alloc (QD #[U x,U y] 56)) w4 x y):=ah.new DN _ _;have⟨w5,Fc⟩:=e9 (w4.alloc (QD #[U x,U y] 56));rw[<-Fc]at Ek;go_upto_region 7 with fail;rw[<-Fc];clear Fc q0;have q0:=Ek.c0;have q1:=Ek.c1;have hsz:=(GV.trans Ek.ext).size
    go_wp2_with (first
     | (at_builtin;refine cG rfl _ _ rfl w3 (GI a4 n4 c4) _ rfl ((Jn.ext Ek.ext).ext WU) _ 1 _ [(x,y)] rfl (C2 j7) (k8 I8.o) m9 ?_;intro v9 w9 ho Gt r7;have XA:=I (aj ((GV.trans Ek.ext).trans WU) Gt (λj hj=>(Jn.lt j hj).1));obtain⟨a9,n9,c9,rfl,N'⟩:=ho.var;have HPA:=I ho;clear ho Gt r7))
    refine er ?_;exact⟨k+1,_,_,_,_,I (k8 HK.o),by go_num,rfl,Yo,HPA,XA⟩
 have DV:k=K:=k8 HK.o;have HPY:=I (show ME L=some P by unfold ME;rw[HN1.o,<-DV];exact Kj);have Pn:=I (show Z=(⟨p,V,P⟩,if EG p V P=true then [121,101,115] else [115,117,109])by rw[Y9.o,HPY.o]);have G4:¬(k:Int)<(K:Int):=j0;have⟨t5,o5,g5⟩:=HW.o _ GV.o;have⟨w6,GD⟩:=e9 (wr.setCell (O G 2) (GI a4 n4 c4));have I':=I (show C8 w6 G (U p) (GI a1 n1 k1) (GI a4 n4 c4)by rw[GD];exact C8.Ta g5 _);have EP:=I (show aK w6 w a1 n1 k1 a4 n4 c4 V P by rw[GD];exact aK.set2 (X:=P) ⟨o5.v,Jn.mono Fu.x.size⟩ g5 _)
 have SV:=I (show cq w w6 p a n cap b m dap by
  rw[GD];have:=Ns.o;exact⟨t5.x.store 2 j0 _,(GE _ _ _ _ m9).trans t5.s,(GE _ _ _ _ m9).trans t5.r⟩)
 have⟨d0,E,d2,df⟩:=C8.c g5;clear DV;go_upto_region 11 with fail;rw[<-GD];clear GD t5 o5 g5 d0 E d2 df;have⟨c0,c1,c2,cf⟩:=SV.s.c;have HIP:=I (mL (p:=p) (HVW _ SV.x) EP.x.rats);generalize EG p V P=B at HIP Pn;go_wp2_with fail;refine i7 HIP λw7 hx=>?_;refine t8 (SV.ext hx) (EP.ext hx) (hx.blk I') λR6 II Kn=>?_;clear c0 c1 c2 cf;have⟨d0,E,d2,df⟩:=C8.c Kn.o;have⟨r0,r1,r2,rf⟩:=R6.r.c;cases B with
 | false =>
   have⟨z0,z1,z2,HZ,XZ⟩:=R6.Eg II.o (p);have qq0:=@RY;exact yB
 | true =>
   have⟨z0,z1,z2,HZ,XZ⟩:=R6.Eg II.o (p);have qq0:=@RY;exact yB
end
end Go.Proofs.YtooiaklfmodcbaaGreatDoor
namespace Go.Proofs.YtooiaklfmodcbaaGreatDoor
open Ending renaming returned->ar
open List renaming length->JL
open Obj renaming cells->QD
open Value renaming slice->GI,bool->bl,string->aE,pointer->aP
open Go.Proofs.Tryz
variable{l L:List (List UInt8)}{w:J}{n base k:Nat}{D:Int}{a:l9}
set_option maxHeartbeats 6000000
set_option maxRecDepth 100000
open Go.RowKit
theorem GL.ait(h:JL l=0)(w:J)(a:l9):GL A9 w a 0 0 l:=⟨h,i8 _,by omega,λk E=>absurd E j0⟩
theorem GL.ad9{b o cap:Nat}(h:GL A9 w (some (O b o)) n cap l)(hn:1<=n):GL A9 w (some (O b (o+1))) (n-1) (cap-1) (l.drop 1):=by
 have hc:=h.r8;obtain⟨m,rfl⟩:∃m,n=m+1:=⟨n-1,by omega⟩;obtain⟨c,rfl⟩:∃c,cap=c+1:=⟨cap-1,by omega⟩;exact h.drop1
section
variable{s:St}{t:List UInt8}{L:List (List UInt8)}{n1:Nat}
theorem SI(G:L=DR 32 t)(hn:JL L=n1){D:Int}(K:D=aD (Lib.join (L.drop 1) [32]) 6)(h:(decide (n1=2)&&(decide (0<=D)&&(Gc (L[0]?.getD []) == 0)))=true):dt s t=jn s D:=by
 simp only[eI,ef,xv]at h;obtain⟨h2,E,hi⟩:=h;have hx:L[0]?.getD []=UQ:=by
  unfold Gc at hi;split at hi
  ·assumption
  split at hi<;>(try split at hi)<;>(try split at hi)<;>cases hi
 unfold dt;rw[<-G];unfold lg;rw[f7 j0,f9 hx,<-K,f9 E]
def E2{P:Prop}(h:P:=by
 unfold Gc at hi
 repeat' split at hi
 all_goals first|assumption|cases hi
 ):P:=h
theorem EU(G:L=DR 32 t)(hn:JL L=n1){D:Int}(K:D=aD (Lib.join (L.drop 1) [32]) 6)(h:(decide (n1=2)&&(decide (0<=D)&&(Gc (L[0]?.getD []) == 2)))=true):dt s t=jU s D:=by
 simp only[eI,ef,xv]at h;obtain⟨h2,E,hi⟩:=h;have hx:L[0]?.getD []=[101,120,97,109,112,108,101]:=by
  exact E2
 unfold dt;rw[<-G];unfold lg;rw[f7 j0,f7 QG,f7 QG,f9 hx,<-K,f9 E]
theorem JH(E:L=DR 32 t)(hn:JL L=n1)(h:(decide (n1=3)&&(Gc (L[0]?.getD []) == 1))=true):dt s t=ft s (L[1]?.getD []) (L[2]?.getD []):=by
 simp only[eI,ef,xv]at h;obtain⟨h2,hi⟩:=h;have hx:L[0]?.getD []=[118,97,108,117,101]:=by
  exact E2
 unfold dt;rw[<-E];unfold lg;rw[f7 j0,f7 QG,f9 hx,f9 j0]
theorem Rb(E:L=DR 32 t)(hn:JL L=n1)(h:(decide (1<n1)&&(Gc (L[0]?.getD []) == 3))=true):dt s t=fW s (L.drop 1):=by
 simp only[eI,ef,xv]at h;obtain⟨h2,hi⟩:=h;have hx:L[0]?.getD []=[112,97,121,111,102,102]:=by
  exact E2
 unfold dt;rw[<-E];unfold lg;rw[f7 j0,f7 QG,f7 QG,f7 QG,f9 hx]
theorem SF(hL:L=DR 32 t)(hn:JL L=n1){D:Int}(G:D=aD (Lib.join (L.drop 1) [32]) 6)(ha:(decide (n1=2)&&(decide (0<=D)&&(Gc (L[0]?.getD []) == 0)))=false)(hb:(decide (n1=2)&&(decide (0<=D)&&(Gc (L[0]?.getD []) == 2)))=false)(hc:(decide (n1=3)&&(Gc (L[0]?.getD []) == 1))=false)(hd:(decide (1<n1)&&(Gc (L[0]?.getD []) == 3))=false):dt s t=Lh s t:=by
 by_cases E:(32:UInt8)∈t
 ·have h9:Lh s t=(s,fG):=by unfold Lh;rw[AV E];rfl
  have hp:1<n1:=by
   obtain⟨x,r,rfl,hx⟩:=iq E;have:=ip 32 r;rw[<-hn,hL,mR hx,nR];omega
  have hdr:JL (L.drop 1)=n1-1:=by rw[Lr,hn]
  rw[h9];unfold dt;rw[<-hL];unfold lg;unfold Gc at ha hb hc hd;rw[f7 j0];by_cases Q:L[0]?.getD []=UQ
  ·rw[f9 Q,<-G];split
   ·next Nh =>
    rw[G]at Nh;have K:=zH Nh;rw[G,f9 Q,UV Nh,UV (show n1=2 by omega)]at ha;cases ha
   rfl
  rw[f7 Q];by_cases K:L[0]?.getD []=[118,97,108,117,101]
  ·rw[f9 K,f7 (λh3=>by
    rw[f7 Q,f9 K,UV (show n1=3 by omega)]at hc
    cases hc)]
  rw[f7 K];by_cases Z:L[0]?.getD []=[101,120,97,109,112,108,101]
  ·rw[f9 Z,<-G];split
   ·next Nh =>
    rw[G]at Nh;have h3:=zH Nh;rw[G,f7 Q,f7 K,f9 Z,UV Nh,UV (show n1=2 by omega)]at hb;cases hb
   rfl
  rw[f7 Z,f7 (λh3=>by
   rw[f7 Q,f7 K,f7 Z,f9 h3,UV hp]at hd
   cases hd)]
 exact oe E
end
section
variable{w:J}{p:Int}{a b:l9}{n cap m dap:Nat}{V:o3}{X:l7}{base:Nat}
def RD{P:Prop}(h:P:=by
 by_cases h2:n1=2
 ·have hb:((n1:Int) == 2)=true:=by simp;omega
  cases ok
  all_goals
   go_wp2;go_meet;exact⟨by simp[h2],I rfl⟩
 ·have hb:((n1:Int) == 2)=false:=by simp;omega
  go_wp2;go_meet;exact⟨by simp[h2],I rfl⟩
 ):P:=h
def YI{P:Prop}(h:P:=by
 go_wp2_with fail;refine HE.mono ?_;rintro e w2 ⟨rfl,C4⟩;go_wp2_with fail;refine(La _).mono ?_;rintro e w3 ⟨rfl,B5⟩;have B7:=I (C4.trans B5);clear C4 B5;go_wp2;go_meet;exact⟨rfl,rfl,B7⟩
 ):P:=h
theorem vB(hV:d9 w a n cap V)(hX:i6 w b m dap X)(hn:n<=1048576)(hm:m<=1048576)(t:List UInt8)(ht:JL t<=1048576):Calls prog 10 #[sess p a n cap b m dap,aE (bs t)] w λe w'=>DJ w' w e (dt ⟨p,V,X⟩ t)/\C7 w w':=by
 have⟨W,hW,HT,HV,HX,Uh,⟨c0,c1,c2,cf⟩,r0,r1,r2,rf⟩:=lA p hV hX;have O8:=I (λ(w':J) (hx:C7 W w')=>hU (p:=p) (HV.ext hx) (HX.ext hx) hn hm);have⟨Z,hZ⟩:=e9 (dt ⟨p,V,X⟩ t);rw[<-hZ];refine ns hZ (λ(w':J) (hx:C7 w w')=>(⟨hV.ext hx,hX.ext hx⟩:d9 w' a n cap V/\i6 w' b m dap X)) hn hm (jm (w:=W) t 32 j0) λIY E LJ KW EO=>?_;have Oo:∀x∈DR 32 t,JL x<=1048576:=λx hx=>fy (kE hx) ht
 have Om:=ip 32 t;have hln:=lw 32 t;have F0:JL (Lib.join ((DR 32 t).drop 1) [32])<=1048576:=by
  have h1:=nZ 32 t;cases hs:DR 32 t with
  | nil=>exact gi _
  | cons x r =>
    rw[hs,QP]at h1;show(Lib.join r [32]).length<=_;cases r with
    | nil=>exact gi _
    | cons y q =>
      rw[QP];unfold Lib.joinTail at h1⊢;have h2:=If List.length h1;simp only[Ti,JI,SW,nR,Pb]at h2⊢;omega
 have⟨L,EW⟩:=GT (DR 32 t);rw[<-EW.o]at EO Oo Om hln F0;have Oa:=I Oo;have Ow:=I ht;have ID:=w9 t;have HID:=I (oM t);have⟨tt,Nn⟩:=GT (bs t);rw[<-Nn.o]at EO ID⊢;have HW9:=I ID;clear Oo ht ID;clear hV hX hn hm hZ;go_in
 go_upto_region 1 with fail;rw[<-hW];clear hW;go_wp2_with fail;refine E9 EO λw1 v ho hx=>?_;obtain⟨a1,n1,k1,rfl,HN1⟩:=ho.var;have FT:JL L=n1:=HN1.o;have Is:=I ho.Hr;have⟨Lq,Lm⟩:=Is.aq9;have A0:=I hx;have HOW:=I ho;have MM:1<=n1:=j0
 have Lz:=I (show JL L<=1048577 by have:=Ow.o;omega);have Sg:=I F0;obtain⟨lb,lo,x0,rfl,L4,D1⟩:=Is.at (k:=0) j0;refine Op (show w1.cell? (O lb lo)=some (aE (bs x0))by simpa[A9]using D1 0 _ rfl) (show L[0]?.getD []=x0 by rw[L4];rfl) (Is.ad9 MM) (show w.heap.size+1<lb from Pw (In HT.r) (HOW.lt lb rfl).1) λHQ0 A8 HD1 FN=>?_;have⟨D,hD⟩:=e9 (aD (Lib.join (L.drop 1) [32]) 6);refine t8 hD (λ(sa:l9) (sn sc:Nat) (h:GL A9 w1 sa sn sc (L.drop 1))=>zW h [32] (by have:=h.hlen;rw[Lr]at this;have:=Lz.o;omega) (by have:=Sg.o;simp only[nR,Pb];omega)) (λ(w':J)=>vF (w:=w') (Lib.join (L.drop 1) [32])) λKm S4 La=>?_;have⟨tj,Y8⟩:=GT (bs (Lib.join (L.drop 1) [32]));simp only[<-Y8.o]at S4;simp only[<-Y8.o,<-hD]at La;have⟨d8,HD8⟩:=GT (if 0<=D then D else 0);have⟨ok,Fs⟩:=GT (decide (0<=D));simp only[<-HD8.o,<-Fs.o]at La;clear hx ho F0 Om hln D1 L4 hD c0 c1 c2 cf r0 r1 r2 rf;go_upto_region 3 with fail
 go_cut [8,9] (λv8 v9 G=>v8=U d8/\v9=bl ok/\b9 (C7 w1 G))
 case first =>
  by_cases Gj:k1=1
  ·obtain rfl:n1=1:=by omega
   subst Gj;have HE:=I (S4 (some (O lb lo)) 0 0 (GL.ait (by rw[Lr,FT]) _ _));exact YI
  have hkf:(k1=1)=False:=eq_false Gj;have HE:=I (S4 (some (O lb (lo+1))) (n1-1) (k1-1) HD1);clear Gj;exact YI
 obtain⟨rfl,rfl,JZ⟩:=hcut;have⟨v1,JD⟩:=e9 wc;subst JD;have Ir:=I (A0.trans JZ);have JO:=I (HT.ext Ir);have q0:=JZ.o6 HQ0.o;have⟨c0,c1,c2,cf⟩:=JO.s.c;have⟨r0,r1,r2,rf⟩:=JO.r.c;have⟨e0,e1,e2,e3⟩:=c4 x0;have⟨i,hi⟩:=e9 (Gc x0);have⟨u0,KZ⟩:=e9 (bs x0);rw[<-hi,<-KZ]at e0 e1 e2 e3;rw[<-KZ]at q0;have HI:=I (show Gc (L[0]?.getD [])=i by rw[A8.o,hi]);clear hi KZ;go_upto_region 4 with fail
 go_cut [21] (λv G=>v=bl (decide (n1=2)&&(ok&&(i == 0)))/\b9 (v1=G))
 case first =>
  exact RD
 obtain⟨rfl,SU⟩:=hcut;have YJ:=SU.o;subst YJ;clear SU;have⟨A,hA⟩:=e9 ((decide (n1=2)&&(ok&&(i == 0))));rw[<-hA];have HA:=I (show(decide (n1=2)&&(decide (0<=D)&&(Gc (L[0]?.getD []) == 0)))=A by rw[HI.o,<-Fs.o,hA]);clear hA;cases A with
 | true =>
   have hd:0<=D:=by have h:=HA.o;simp only[eI,ef]at h;exact h.2.1
   obtain rfl:d8=D:=by rw[HD8.o,f9 hd]
   have⟨hv,hx⟩:=E.o _ JO.x;have EO:=I (xT (p:=p) hv hx LJ.o KW.o d8);have⟨R,hR⟩:=e9 (jn ⟨p,V,X⟩ d8);rw[<-hR]at EO;have JQ:=I (IY.trans ((SI EW.o HN1.o Km.o HA).trans hR.symm));clear hR hd hv hx q0;go_wp2_with fail;refine EO.mono ?_;rintro e w9 ⟨⟨a',n',k',b',m',d',rfl,ho⟩,hx⟩;have FW:=I (JO.ext hx);have Gl:=I (ho.mono JO.x.size);have qq0:=@YY;exact Wh
 | false =>
   go_upto_region 6 with fail
   go_cut [38] (λv G=>v=bl (decide (n1=2)&&(ok&&(i == 2)))/\b9 (v1=G))
   case first =>
    exact RD
   obtain⟨rfl,SU⟩:=hcut;have YJ:=SU.o;subst YJ;clear SU;have⟨A,hA⟩:=e9 ((decide (n1=2)&&(ok&&(i == 2))));rw[<-hA];have HB:=I (show(decide (n1=2)&&(decide (0<=D)&&(Gc (L[0]?.getD []) == 2)))=A by rw[HI.o,<-Fs.o,hA]);clear hA;cases A with
   | true =>
     have hd:0<=D:=by have h:=HB.o;simp only[eI,ef]at h;exact h.2.1
     obtain rfl:d8=D:=by rw[HD8.o,f9 hd]
     have⟨hv,hx⟩:=E.o _ JO.x;have EO:=I (xS (p:=p) hv hx LJ.o KW.o d8);have⟨R,hR⟩:=e9 (jU ⟨p,V,X⟩ d8);rw[<-hR]at EO;have JQ:=I (IY.trans ((EU EW.o HN1.o Km.o HB).trans hR.symm));clear hR hd hv hx q0;go_wp2_with fail;refine EO.mono ?_;rintro e w9 ⟨⟨a',n',k',b',m',d',rfl,ho⟩,hx⟩;have FW:=I (JO.ext hx);have Gl:=I (ho.mono JO.x.size);have qq0:=@YY;exact Wh
   | false =>
     go_upto_region 8 with fail
     go_cut [55] (λv G=>v=bl (decide (n1=3)&&(i == 1))/\b9 (v1=G))
     case first =>
      by_cases h2:n1=3
      ·have hb:((n1:Int) == 3)=true:=by simp;omega
       go_wp2;go_meet;exact⟨by simp[h2],I rfl⟩
      have hb:((n1:Int) == 3)=false:=m9;go_wp2;go_meet;exact⟨by simp[h2],I rfl⟩
     obtain⟨rfl,SU⟩:=hcut;have YJ:=SU.o;subst YJ;clear SU;have⟨A,hA⟩:=e9 ((decide (n1=3)&&(i == 1)));rw[<-hA];have HC:=I (show(decide (n1=3)&&(Gc (L[0]?.getD []) == 1))=A by rw[HI.o,hA]);clear hA;cases A with
     | true =>
       have h3:n1=3:=by have h:=HC.o;simp only[eI,ef]at h;exact h.1
       subst h3;have⟨lb',lo',x1,e',W3,Eu⟩:=Is.at (k:=1) j0;obtain⟨rfl,rfl⟩:=aM e';clear e';have⟨lb',lo',x2,e',hL2,GU⟩:=Is.at (k:=2) j0;obtain⟨rfl,rfl⟩:=aM e';clear e';have q1:=JZ.o6 (show w1.cell? (O lb (lo+1))=some (aE (bs x1))by simpa[A9]using Eu 0 _ rfl);have q2:=JZ.o6 (show w1.cell? (O lb (lo+2))=some (aE (bs x2))by simpa[A9]using GU 0 _ rfl);have HL12:b9 (L[1]?.getD []=x1/\L[2]?.getD []=x2):=I ⟨by rw[W3];rfl,by rw[hL2];rfl⟩;have EO:=I (λ(w':J) (hx:C7 v1 w')=>BA (p:=p) (E w' (JO.ext hx).x).1 (E w' (JO.ext hx).x).2 LJ.o KW.o x1 x2);have⟨R,hR⟩:=e9 (ft ⟨p,V,X⟩ x1 x2);simp only[<-hR]at EO;have JQ:=I (IY.trans ((show dt ⟨p,V,X⟩ t=ft ⟨p,V,X⟩ x1 x2 by rw[JH EW.o HN1.o HC.o,HL12.1,HL12.2]).trans hR.symm));have⟨tr,I0⟩:=GT (bs R.2);have⟨rp,Mb⟩:=GT R.1.p;clear hR;have⟨t1,Og⟩:=e9 (bs x1);have⟨t2,ht2⟩:=e9 (bs x2);simp only[<-Og,<-ht2]at EO;rw[<-Og]at q1;rw[<-ht2]at q2;clear W3 hL2 Eu GU Og ht2 q0 c0 c1 c2 cf r0 r1 r2 rf;have Ul:=I (λ(w':J) (hk:C7 v1 w')=>(⟨hk.o6 q1,hk.o6 q2,(JO.ext hk).keep⟩:w'.cell? (O lb (lo+1))=some (aE t1)/\w'.cell? (O lb (lo+2))=some (aE t2)/\w'.cell? (O w 0)=some (U p)/\w'.cell? (O w 1)=some (GI a n cap)/\w'.cell? (O w 2)=some (GI b m dap)/\C7 w w'));have hk:=C7.drew v1;clear q1 q2;go_upto_region 9 with fail;refine mc Ul hk λo9=>?_
       refine mq ⟨?_⟩;refine PV ⟨?_⟩;refine rd 7 λK hK=>?_;go_simp
       (go_at_call 18;refine(EO _ hk).mono ?_;rintro e w9 ⟨⟨a',n',k',b',m',d',rfl,ho⟩,hx⟩;rw[<-I0.o,<-Mb.o];have Gl:=I (ho.mono (JO.ext hk).x.size);have hk:=hk.trans hx;have FW:=I (JO.ext hk);clear ho hx)
       go_wp2_with fail;refine KO (Ul _ hk) λo9=>?_;have⟨r0,r1,r2,rf⟩:=FW.r.c;have⟨z0,z1,z2,HZ,XZ⟩:=FW.Eg Gl.o rp;refine tk 8 ?_;refine tk 9 ?_;refine rd 10 λK hK=>?_;go_simp;refine hK.out _ _ ?_ (λo9=>?_)
       ·exact⟨(Rs (k8 FN.o) _ _ _ _).trans ((Ul _ hk).1),(Rs (k8 FN.o) _ _ _ _).trans ((Ul _ hk).2.1),iI FW.o XZ.o⟩
       clear hK K
       try simp only[Act.put,sA,sB,sC]
       refine tk 11 ?_;refine Pi j8 ?_ _;go_wp2;refine Fn I1 rfl ⟨DJ.re JQ.o Mb.o I0.o HZ.o,XZ⟩
     | false =>
       go_upto_region 10 with fail
       go_cut [74] (λv G=>v=bl (decide (1<n1)&&(i == 3))/\b9 (v1=G))
       case first =>
        by_cases h2:1<n1
        ·have hb:=Rd 1 n1;go_wp2;go_meet;exact⟨by simp[h2],I rfl⟩
        have hb:¬(1:Int)<(n1:Int):=j0;go_wp2;go_meet;exact⟨by simp[h2],I rfl⟩
       obtain⟨rfl,SU⟩:=hcut;have YJ:=SU.o;subst YJ;clear SU;have⟨A,hA⟩:=e9 ((decide (1<n1)&&(i == 3)));rw[<-hA];have HD:=I (show(decide (1<n1)&&(Gc (L[0]?.getD []) == 3))=A by rw[HI.o,hA]);clear hA;cases A with
       | true =>
         have h3:1<n1:=by have h:=HD.o;simp only[eI,ef]at h;exact h.1
         have hkf:(k1=1)=False:=eq_false j0;have hpi:(1:Int)<=(n1:Int):=j0;have EO:=I (λ(w':J) (hx:C7 v1 w')=>zf (p:=p) (E w' (JO.ext hx).x).1 (E w' (JO.ext hx).x).2 LJ.o KW.o (HD1.ext (JZ.trans hx)) (λx hx=>Oa.o x (List.mem_of_mem_drop hx)) (by rw[Lr];have:=Lz.o;omega));have⟨R,hR⟩:=e9 (fW ⟨p,V,X⟩ (L.drop 1));simp only[<-hR]at EO;have JQ:=I (IY.trans ((Rb EW.o HN1.o HD).trans hR.symm));have⟨tr,FA⟩:=e9 (bs R.2);have⟨rp,G3⟩:=e9 R.1.p;have I0:=I FA;have Mb:=I G3;clear hR FA G3;clear q0 c0 c1 c2 cf r0 r1 r2 rf;have hk:=C7.drew v1;go_upto_region 11 with fail;refine nE (S:=(λw'=>w'.cell? (O w 0)=some (U p)/\w'.cell? (O w 1)=some (GI a n cap)/\w'.cell? (O w 2)=some (GI b m dap)/\C7 w w')) j8 ?_ (λo9=>?_)
         ·exact(JO.ext hk).keep
         refine mq ⟨?_⟩;refine rd 3 λK hK=>?_;go_simp
         (go_at_call 19;refine(EO _ hk).mono ?_;rintro e w9 ⟨⟨a',n',k',b',m',d',rfl,ho⟩,hx⟩;rw[<-I0.o,<-Mb.o];have Gl:=I (ho.mono (JO.ext hk).x.size);have hk:=hk.trans hx;have FW:=I (JO.ext hk);clear ho hx)
         go_wp2_with fail;refine KO ((JO.ext hk).keep) λo9=>?_;have⟨r0,r1,r2,rf⟩:=FW.r.c;have⟨z0,z1,z2,HZ,XZ⟩:=FW.Eg Gl.o rp;refine tk 4 ?_;refine tk 5 ?_;refine rd 6 λK hK=>?_;go_simp;refine KO (iI FW.o XZ) λo9=>?_;refine tk 7 ?_;refine Pi j8 ?_ _;go_wp2;refine Fn I1 rfl ⟨DJ.re JQ.o Mb.o I0.o HZ.o,XZ⟩
       | false =>
         have Pn:=I (IY.trans (SF EW.o HN1.o Km.o HA.o HB.o HC.o HD));clear q0 e0 e1 e2 e3;obtain⟨f0,f1,f2,f3,f4,_⟩:=HW9.o;have⟨j,HJ⟩:=GT (So t);rw[<-HJ.o]at f0 f1 f2 f3 f4;have hj9:j<=9:=by rw[HJ.o];exact HID
         go_upto_region 12 with fail
         go_cut [89] (λv G=>v=bl (decide (j<=3))/\b9 (v1=G))
         case first =>
          obtain rfl|rfl|rfl|rfl|⟨h4,g0,g1,g2,g3⟩:j=0∨j=1∨j=2∨j=3∨(3<j/\(j == 0)=false/\(j == 1)=false/\(j == 2)=false/\(j == 3)=false):=by
           by_cases h:3<j
           ·refine .inr (.inr (.inr (.inr ⟨h,?_,?_,?_,?_⟩)))<;>simp<;>omega
           omega
          case' inr.inr.inr.inr =>
           rw[g0]at f0;rw[g1]at f1;rw[g2]at f2;rw[g3]at f3;have hh:¬j<=3:=j0;go_wp2;go_meet;exact⟨by rw[Ok hh],I rfl⟩
          all_goals
           simp only[Nat.reduceBEq]at f0 f1 f2 f3;go_wp2;go_meet;exact⟨rfl,I rfl⟩
         obtain⟨rfl,SU⟩:=hcut;have YJ:=SU.o;subst YJ;clear SU f0 f1 f2 f3;by_cases h3:j<=3
         ·rw[UV h3];have⟨hv,hx⟩:=E.o _ JO.x;have EO:=I (Bz (p:=p) hv hx LJ.o KW.o t (by rw[<-HJ.o];exact h3));have⟨R,hR⟩:=e9 (Fz ⟨p,V,X⟩ (So t));rw[<-hR,<-Nn.o]at EO;have JQ:=I (Pn.trans hR.symm);clear hR hv hx h3 f4;go_wp2_with fail;refine EO.mono ?_;rintro e w9 ⟨⟨a',n',k',b',m',d',rfl,ho⟩,hx⟩;have FW:=I (JO.ext hx);have Gl:=I (ho.mono JO.x.size);have qq0:=@YY;exact Wh
         rw[Ok h3];by_cases h4:j=4
         ·subst h4;rw[show((4:Nat) == 4)=true from rfl]at f4;have⟨hv,hx⟩:=E.o _ JO.x;have EO:=I (Du (p:=p) hv hx LJ.o KW);have⟨R,hR⟩:=e9 (Fz ⟨p,V,X⟩ 4);rw[<-hR]at EO;have JQ:=I (Pn.trans (show Lh ⟨p,V,X⟩ t=R by unfold Lh;rw[<-HJ.o,hR]));clear hR hv hx h3;go_wp2_with fail;refine EO.mono ?_;rintro e w9 ⟨⟨a',n',k',b',m',d',rfl,ho⟩,hx⟩;have FW:=I (JO.ext hx);have Gl:=I (ho.mono JO.x.size);have qq0:=@YY;exact Wh
         rw[show(j == 4)=false by simp[h4]]at f4;have O8:=I (λ(w':J) (hx:C7 v1 w')=>hU (p:=p) (E w' (JO.ext hx).x).1 (E w' (JO.ext hx).x).2 LJ.o KW);have HAK:=I (λ(w':J) (hx:C7 v1 w')=>UY (p:=p) (E w' (JO.ext hx).x).1 (E w' (JO.ext hx).x).2 t (by rw[<-HJ.o];omega));have h1:Lh ⟨p,V,X⟩ t=(⟨p,V,X⟩,(Fz ⟨p,V,X⟩ (So t)).2):=by
          unfold Lh;rw[<-HJ.o];obtain rfl|rfl|rfl|rfl|rfl:j=5∨j=6∨j=7∨j=8∨j=9:=j0
          all_goals rfl
         have⟨Y,hY⟩:=e9 ((Fz ⟨p,V,X⟩ (So t)).2);rw[<-hY]at h1;have JQ:=I (Pn.trans h1);have⟨tr,FA⟩:=e9 (bs Y);simp only[<-hY,<-FA,<-Nn.o]at HAK;have I0:=I FA;clear hY FA h1 h3 h4 c0 c1 c2 cf r0 r1 r2 rf;have hk:=C7.drew v1;have⟨c0,c1,c2,cf⟩:=JO.s.c;go_upto_region 16 with fail;refine nE (S:=(λw'=>w'.cell? (O w 0)=some (U p)/\w'.cell? (O w 1)=some (GI a n cap)/\w'.cell? (O w 2)=some (GI b m dap)/\C7 w w')) j8 ?_ (λo9=>?_)
         ·exact(JO.ext hk).keep
         refine tk 0 ?_;refine tk 2 ?_;refine tk 3 ?_;refine rd 1 λK hK=>?_;go_simp
         (go_at_call 22;refine(O8 _ hk).mono ?_;rintro e w9 ⟨⟨a',n',k',b',m',d',rfl,ho⟩,hx⟩;have Gl:=I (ho.mono (JO.ext hk).x.size);have hk:=hk.trans hx;have HK9:=I hk;clear ho hx)
         go_wp2_with fail;refine KO ((JO.ext hk).keep) λo9=>?_;refine rd 4 λK hK=>?_;go_simp
         (go_at_call 23;refine i7 (HAK _ hk) λwa hx=>?_;have Gl:=I (Gl.ext hx);have hk:=hk.trans hx)
         go_wp2_with fail;refine KO ((JO.ext hk).keep) λo9=>?_;have FW:=I (JO.ext hk);have⟨r0,r1,r2,rf⟩:=FW.r.c;have⟨z0,z1,z2,HZ,XZ⟩:=FW.Eg Gl.o p;refine rd 5 λK hK=>?_;go_simp;refine KO (iI FW.o XZ) λo9=>?_;refine tk 6 ?_;refine Pi j8 ?_ _;go_wp2;refine Fn I1 rfl ⟨DJ.of JQ.o I0.o HZ.o,XZ⟩
end
theorem xM(t:List UInt8)(ht:JL t<=1048576):
 Calls prog 4 #[aE (bs t)] w λe w'=>(∃v,e=ar (.tuple #[v,bl (decide (JL (DR 10 t)<=60))])/\A5 A9 9 w' w v (Pv t))/\C7 w w':=by
 have EO:=I (jm (w:=w) t 10 j0);have hrs:=show Pv t=if(DR 10 t).length<=60 then(Ic (DR 10 t) (JL (DR 10 t))).2 else []from rfl
 have Oo:∀x∈DR 10 t,JL x<=1048576:=λx hx=>fy (kE hx) ht
 have EU:=ol Oo;generalize Pv t=Z at hrs⊢;generalize DR 10 t=L at EO hrs Oo EU⊢;generalize bs t=tt at EO⊢;have Kk:=I hrs;have⟨B,Gf⟩:=GT (decide (JL L<=60));rw[<-Gf.o];have Oa:=I Oo;have DO:=I EU;clear Oo ht hrs EU;go_in
 go_wp2_with fail;refine E9 EO λw1 v ho hx=>?_;obtain⟨a1,n1,c1,rfl,HN1⟩:=ho.var;have⟨Lq,Lm⟩:=ho.Hr.aq9;refine t8 hx ho.Hr (λb hb=>(ho.lt b hb).2) λA0 Is HLO=>?_;clear ho hx;have Gf:=I (show B=decide (n1<=60)by rw[Gf.o,HN1.o]);by_cases hn:n1<=60
 ·have hng:¬(60:Int)<(n1:Int):=by omega
  have Od:=I (Gf.trans (UV hn));have HZ:=I (show Z=(Ic L n1).2 by rw[Kk.o,HN1.o,f9 hn]);have⟨w2,E⟩:=e9 ((w1.alloc (QD #[] 9)).alloc (QD #[U 0,d6,d6] 34));refine t8 (show C8 w2 (w1+1) (U 0) d6 (d6)by rw[E];exact IO j7) (show C7 w1 w2 by rw[E];exact WU.trans WU) (show A5 A9 9 w2 w1 (EQ w1 0 0) []by rw[E];exact(A5.D2 A9 9 w1 w1 _ rfl (i8 _)).ext WU) λFy C0 HA2=>?_;go_upto_region 6 with fail;rw[<-E];clear E;have⟨r,hr⟩:=e9 (w1.heap.size+1);have HRG:=I (show w1.heap.size<=r by rw[hr];omega);rw[<-hr]at Fy⊢;clear hr;go_wp2
  go_loopg [5,7] n1 (λgk tt kk wr=>∃(k:Nat) (a4:l9) (n4 c4:Nat) (A:List (List UInt8)) (p:Int) (V:o3) (X:l7) (a:l9) (n cap:Nat) (b:l9) (m dap:Nat),b9 (gk+k=n1)/\tt=GI a4 n4 c4/\kk=U k/\b9 (Ic L k=(⟨p,V,X⟩,A))/\b9 (A5 A9 9 wr w1 (GI a4 n4 c4) A)/\b9 (C8 wr r (U p) (GI a n cap) (GI b m dap))/\b9 (aK wr w a n cap b m dap V X)/\b9 (C7 w1 wr))
  ·exact⟨0,_,_,_,[],0,[],[],_,_,_,_,_,_,I j0,rfl,rfl,I rfl,HA2,Fy,I ⟨C1,qj⟩,C0⟩
  obtain⟨k,a4,n4,c4,A,p,V,X,a,n,cap,b,m,dap,HK,rfl,rfl,Fq,HA,HB,HO,HX⟩:=hrel;have PE:=ST k;by_cases hlt:k<n1
  ·obtain⟨lb,lo,x0,rfl,L4,D1⟩:=(Is.ext HX).at hlt;have q0:wr.cell? (O lb (lo+k))=some (aE (bs x0)):=by simpa[A9]using D1 0 _ rfl
   have⟨⟨E6,Ew⟩,Oq⟩:=DO.o k;rw[Fq.o]at E6 Ew Oq;have HAL:=I (show JL A<=60 by have:JL A=k:=Oq;omega);have OB:=I (λ(w':J) (hx:C7 wr w')=>vB (w:=w') (p:=p) (HO.v.ints.ext hx) (HO.x.rats.ext hx) (by rw[<-HO.v.ints.hlen];exact E6) (by rw[<-HO.x.rats.hlen];exact Ew) x0 (Oa x0 (RU L4)))
   have Np:=I (show Ic L (k+1)=((dt ⟨p,V,X⟩ x0).1,A++[(dt ⟨p,V,X⟩ x0).2])by
    show((dt (Ic L k).1 (L[k]?.getD [])).1,(Ic L k).2++[(dt (Ic L k).1 (L[k]?.getD [])).2])=_;rw[Fq.o,L4];rfl)
   obtain⟨⟨⟨p5,V5,X5⟩,t5⟩,hR⟩:∃R,R=dt ⟨p,V,X⟩ x0:=⟨_,rfl⟩;simp only[<-hR]at OB;rw[<-hR]at Np;have⟨u0,KZ⟩:=e9 (bs x0);rw[<-KZ]at q0;simp only[<-KZ]at OB;have⟨t0,R7⟩:=GT (bs t5);have⟨c0,c1,c2,cf⟩:=C8.c HB.o;have Kj:=I (In HB);have G4:=Rd k n1;have Ul:=I (λ(w':J) (hk:C7 wr w')=>(⟨hk.o6 q0,hk.o6 c0,hk.o6 c1,hk.o6 c2⟩:w'.cell? (O lb (lo+k))=some (aE u0)/\w'.cell? (O r 0)=some (U p)/\w'.cell? (O r 1)=some (GI a n cap)/\w'.cell? (O r 2)=some (GI b m dap)));have hk:=C7.drew wr;clear D1 L4 hR KZ E6 Ew Oq q0 c0 c1 c2 cf;go_upto_region 9 with fail
   go_cut [8,9] (λs8 s9 wx=>∃(g5:Nat) (a5:l9) (n5 k5:Nat) (b5:l9) (m5 d5:Nat),s8=aP (some (O g5 0))/\s9=aE t0/\b9 (C8 wx g5 (U p5) (GI a5 n5 k5) (GI b5 m5 d5))/\b9 (aK wx w a5 n5 k5 b5 m5 d5 V5 X5)/\b9 (C7 wr wx)/\b9 (r<g5))
   case first =>
    refine mc Ul hk λo9=>?_;refine mq ⟨?_⟩;refine tk 3 ?_;refine tk 4 ?_;refine YT (rs:=[5,9]) j8 j7 ?_;refine Rg (λK hK=>?_) ?_
    ·
     go_simp
     (go_at_call 10;refine(OB _ hk).mono ?_;rintro e w4 ⟨⟨a5,n5,k5,b5,m5,d5,rfl,ho⟩,hx⟩;rw[<-R7.o];have EI:=I (ho.mono ((A0.trans HX).trans hk).size);have hk:=hk.trans hx;clear ho hx)
     go_wp2_with fail;refine KO (Ul _ hk) λo9=>?_;refine tk 6 ?_;refine tk 7 ?_;refine tk 8 ?_;refine rd 9 λK hK=>?_;go_simp;refine hK.out _ _ ?_ (λo9=>?_)
     ·exact Ul.o _ (hk.trans WU)
     clear hK K
     try simp only[Act.put,sA,sB,sC]
     refine Op (show C8 (w4.alloc (QD #[U 0,d6,d6] 34)) w4 (U 0) d6 (d6)from IO rfl) (EI.ext (C7.alloc w4 (QD #[U 0,d6,d6] 34))) (hk.trans (C7.alloc w4 (QD #[U 0,d6,d6] 34))) (show wr.heap.size<=w4.heap.size from hk.size) λEk DT HK5 S5=>?_;have⟨w5,Fc⟩:=e9 (w4.alloc (QD #[U 0,d6,d6] 34));rw[<-Fc]at Ek DT HK5 o9;rw[<-Fc];clear Fc hk;generalize w4.heap.size=g5 at Ek S5⊢;have⟨d0,d1,d2,df⟩:=C8.c Ek.o;refine Op (show g5≠r by have:=Kj.o;have:=S5.o;omega) (C8.put Ek.o (U p5) (GI a5 n5 k5) (GI b5 m5 d5)) (aK.put DT.o Ek.o (U p5) (GI a5 n5 k5) (GI b5 m5 d5)) (HK5.E' S5.o (U p5) (GI a5 n5 k5) (GI b5 m5 d5)) λHGR I' EP FU=>?_;refine rd 10 λK hK=>?_;go_simp;refine KO (Ul _ FU) λo9=>?_;refine tk 11 ?_;refine Pi j8 ?_ _;go_wp2;go_meet;exact⟨_,_,_,_,_,_,_,rfl,rfl,I',EP,FU,I (by have:=Kj.o;have:=S5.o;omega)⟩
    refine Rg (λK hK=>?_) WW
     
    have Kd:=hk;have⟨wd,hwd⟩:=e9 wr.drew;rw[<-hwd]at hk o9 Kd;rw[<-hwd];clear hwd;go_simp;refine hK.out _ _ ?_ (λo9=>?_)
    ·exact Ul.o _ (hk.trans WU)
    clear hK K
    try simp only[Act.put,sA,sB,sC]
    have FI:b9 (C8 (wd.alloc (QD #[U 0,d6,d6] 34)) wd (U 0) d6 (d6)):=IO rfl;have hk:=hk.trans (C7.alloc wd (QD #[U 0,d6,d6] 34));have S5:b9 (wr.heap.size<=wd.heap.size):=Kd.size;have⟨w3,E8⟩:=e9 (wd.alloc (QD #[U 0,d6,d6] 34));rw[<-E8]at FI hk o9;rw[<-E8];clear E8 Kd;generalize wd.heap.size=g5 at FI S5⊢;refine rd 5 λK hK=>?_;go_simp
    (go_at_call 10;refine(OB _ hk).mono ?_;rintro e w5 ⟨⟨a5,n5,k5,b5,m5,d5,rfl,ho⟩,hx⟩;rw[<-R7.o];have DT:=I (ho.mono ((A0.trans HX).trans hk).size);have hk:=hk.trans hx;have HK5:=I hk;have Ek:=I (hx.blk FI);clear ho hx)
    go_wp2_with fail;refine KO (Ul _ hk) λo9=>?_;refine tk 6 ?_;refine tk 7 ?_;refine tk 8 ?_;have⟨d0,d1,d2,df⟩:=C8.c Ek.o;refine Op (show g5≠r by have:=Kj.o;have:=S5.o;omega) (C8.put Ek.o (U p5) (GI a5 n5 k5) (GI b5 m5 d5)) (aK.put DT.o Ek.o (U p5) (GI a5 n5 k5) (GI b5 m5 d5)) (HK5.E' S5.o (U p5) (GI a5 n5 k5) (GI b5 m5 d5)) λHGR I' EP FU=>?_;refine rd 10 λK hK=>?_;go_simp;refine KO (Ul _ FU) λo9=>?_;refine tk 11 ?_;refine Pi j8 ?_ _;go_wp2;go_meet;exact⟨_,_,_,_,_,_,_,rfl,rfl,I',EP,FU,I (by have:=Kj.o;have:=S5.o;omega)⟩
   obtain⟨g5,a5,n5,k5,b5,m5,d5,rfl,rfl,Ek,DT,FV,S5⟩:=hcut;have⟨d0,d1,d2,df⟩:=C8.c Ek.o;have JR:=I (FV.blk HB);have⟨c0,c1,c2,cf⟩:=C8.c JR.o;have⟨w6,GD⟩:=e9 (((wc.setCell (O r 0) (U p5)).setCell (O r 1) (GI a5 n5 k5)).setCell (O r 2) (GI b5 m5 d5));exact Qh
  have qq0:=@results4;exact Og
 have hng:=Rd 60 n1;have HBF:=I (Gf.trans (Ok hn));have HZ:=I (show Z=[]by rw[Kk.o,HN1.o,f7 hn]);go_wp2;refine Fn (v:=.tuple #[EQ w1 0 0,bl false]) (by simp[results,results4,go_sem]) rfl ⟨⟨_,by rw[HBF.o],by rw[HZ.o];exact A5.D2 A9 9 w1 w _ rfl A0.size⟩,A0.trans WU⟩
theorem Ya(l:List (List UInt8))(k:Nat)(x:List UInt8):(A9.all l).set k (aE (bs x))=A9.all (l.set k x):=by
 have e:∀l:List (List UInt8),A9.all l=l.map λx=>aE (bs x):=λl=>by
  unfold mg.all
  induction l with
  | nil=>rfl
  | cons y r ih=>rw[TO,ih];rfl
 rw[e,e,List.map_set]
theorem A5.setT{g cap:Nat}(h:A5 A9 9 w base (EQ g n cap) l)(k:Nat)(x:List UInt8):
 A5 A9 9 (w.setCell (O g k) (aE (bs x))) base (EQ g n cap) (l.set k x):=by
 obtain⟨a',c',E,_⟩:=A5.form h;simp only[nP]at E;obtain⟨_,rfl,_⟩:=E;have:=(Yk h k (aE (bs x))).1;unfold A5;rw[k7,<-Ya];exact this
def Vx(k:Nat):List UInt8:=109::Lib.decDigits k
def Jy(k n:Nat):List (List UInt8):=(List.range n).map λj=>Vx (k+j)
theorem CH(k n:Nat):Jy k (n+1)=Jy k n++[Vx (k+n)]:=by unfold Jy;rw[rN,sr];rfl
theorem xk(k n:Nat):JL (Jy k n)=n:=by unfold Jy;simp
theorem ZX{j:Nat}(h:j<n):(Jy k n)[j]?=some (Vx (k+j)):=by unfold Jy;simp[h]
theorem ZW{j:Nat}(h:j<JL L):(Jy k j++L.drop j).set j (Vx (k+j))=Jy k (j+1)++L.drop (j+1):=by
 rw[ct _ _ (by rw[xk];exact i8 _),xk,Y',RQ h,MY,CH,yf]
 rfl
theorem rD(n:Nat)(FT:1<=n)(hn:n<=1000000):
 f8 13 #[U n] w (aE (bs (Vx n))):=by
 have hz:¬(n:Int)<=0:=j0;have hlen:JL (Lib.decDigits n)<=21:=by
  have:=Yv (n:Int) j0 j0
  rwa [O3]at this
 have HL:=I hlen;have HD:=I (show Hj n++[]=Lib.decDigits n by unfold Hj;rw[f7 j0,C3]);clear hlen;unfold f8;go_in
 go_wp2
 go_loopg [0,3] n (λgk nn oo wr=>∃(m:Nat) (l:List UInt8),b9 (m<=gk)/\nn=U m/\oo=aE (bs l)/\b9 (Hj m++l=Lib.decDigits n)/\b9 (C7 w wr)/\b9 (m<=1000000))
 ·exact T5
 rename Nat=>g1;rename J=>wr;obtain⟨m,l,HM,rfl,rfl,Rq,HX,HMB⟩:=hrel;by_cases NF:m=0
 ·subst NF;have Z:l=Lib.decDigits n:=by rw[<-Rq.o];rfl
  have PD:JL l<=21:=by rw[Z];exact HL
  have⟨u,E⟩:=e9 (bs l);have G:u.size<=21:=by rw[E,aY];exact PD
  have HF:=I (show({ data:=#[109] }:ByteArray)++u=bs (Vx n)by rw[E,Z];exact ch [109] _);have PG:¬9223372036854775807<1+u.size:=j0;rw[<-E];clear Z PD E G;go_wp2;go_ret;exact⟨cj HF.o,HX⟩
 have Q8:=Rd 0 m;have hm6:m<=1000000:=HMB.o;have PC:Int.tmod (m:Int) 10=((m % 10:Nat):Int):=by rw[mx j0];omega
 have hdiv:Int.tdiv (m:Int) 10=((m/10:Nat):Int):=by rw[cr j0];omega
 have⟨d,hd⟩:=e9 (m % 10);have⟨q,hq⟩:=e9 (m/10);rw[<-hd]at PC;rw[<-hq]at hdiv;have adO:d<10:=j0;have⟨x,hx⟩:=e9 (UInt8.ofNat (48+d));have HS:=I (show Hj m=Hj q++[x]by rw[hx,hd,hq];exact kS NF);have hqm:q<m:=j0;have PD:JL l<=21:=by
  have h1:=HL.o;rw[<-Rq.o,SW]at h1;omega
 exact KM
theorem yr{x:List UInt8}(h:L[k]?=some x):L.take (k+1)=L.take k++[x]:=by rw[Yg,h];rfl
theorem pA{a':l9}{n' cap E:Nat}{L':List (List UInt8)}(h:GL A9 w a n cap L)(h':GL A9 w a' n' E L'):
 f8 6 #[.slice a n cap,.slice a' n' E] w (.bool (decide (L=L'))):=by
 have hn:=h.r8;have hm:=h.r9;have hn':=h'.r8;have hm':=h'.r9;have HL:=I h.hlen;have OA:=I h'.hlen;have HS:=I h;have HS':=I h';clear h h';by_cases G:n=n'
 ·subst G;(try unfold f8);go_in
  go_wp2_with fail
  go_loopg [5] n (λgk ii wr=>∃k:Nat,b9 (gk+k=n)/\ii=.int .i64 (k:Int)/\b9 (L.take k=L'.take k)/\b9 (C7 w wr))
  case atStart=>exact N0
  obtain⟨k,HK,rfl,HT,HX⟩:=hrel;have PE:=ST k;by_cases Z:k<n
  ·obtain⟨b,o,x,rfl,hx,hc⟩:=(HS.o.ext HX.o).at Z;obtain⟨b',o',x',rfl,K,hc'⟩:=(HS'.o.ext HX.o).at Z;have q0:wr.cell? ⟨b,o+k,none⟩=some (.string (bs x)):=by simpa[A9]using hc 0 _ rfl
   have q1:wr.cell? ⟨b',o'+k,none⟩=some (.string (bs x')):=by simpa[A9]using hc' 0 _ rfl
   have hq:=sz x x';obtain⟨B,hB⟩:=e9 (decide (x=x'));rw[<-hB]at hq;obtain⟨u,hu⟩:=e9 (bs x);obtain⟨u',Of⟩:=e9 (bs x');rw[<-hu]at q0 hq;rw[<-Of]at q1 hq;have A0:=I hx;have C0:=I K;have Gf:=I hB;have G4:=Rd k n;have LM:=I (λ(w':J) (hk:C7 wr w')=>(⟨hk.o6 q0,hk.o6 q1⟩:w'.cell? ⟨b,o+k,none⟩=some (.string u)/\w'.cell? ⟨b',o'+k,none⟩=some (.string u')));have hk:=C7.drew wr;clear hc hc' hx K hB hu Of q0 q1;go_upto_region 6 with fail;refine mc LM hk λo9=>?_
   refine mq ⟨?_⟩;refine PV ⟨?_⟩;refine tk 7 ?_;refine tk 8 ?_;refine Pi j8 ?_ _;have HXD:=I (HX.o.trans hk);cases B with
   | true =>
     go_wp2_with fail;refine er ?_;exact⟨k+1,I (k8 HK.o),by go_num,I (by rw[yr A0.o,yr C0.o,HT.o,uf Gf.o.symm]),HXD⟩
   | false =>
     go_wp2_with fail;go_ret;refine⟨ag (Eq.symm (Ok λe=>?_)),HXD.o⟩;have h1:=A0.o;rw[e,C0.o]at h1;exact tz Gf.o.symm (tu h1).symm
  have DV:k=n:=k8 HK.o;have HE:=I (show L=L' by
   have h1:=HT.o;rw[bR Ym,bR (by rw[OA.o];omega)]at h1
   exact h1)
  have G4:¬(k:Int)<(n:Int):=j0;clear DV;go_wp2_with fail;go_ret;exact⟨ag (UV HE.o).symm,HX.o⟩
 have SC:((n:Int) != (n':Int))=true:=m9;have HN:=I (show L≠L' from λe=>G (by rw[<-HL.o,<-OA.o,e]));clear G;(try unfold f8);go_in
 go_wp2_with fail;go_ret;exact⟨ag (Ok HN.o).symm,C7.refl _⟩
theorem vt{cap:Nat}(h:A5 A9 9 w base (GI a n cap) L)(E:Nat)(h0:1<=E)(h1:E+n<=1000000):
 Calls prog 7 #[GI a n cap,U E] w λe w'=>e=ar (U ((E+n:Nat):Int))/\A5 A9 9 w' base (GI a n cap) (Jy E n)/\Below base w w':=by
 have HL:=I h.Hr.hlen;have⟨hnc,K3⟩:=h.Hr.aq9;have Ko:=I (λg (hg:a=some (O g 0))=>(h.lt g (by rw[hg];rfl)).1);have HO:=I h;clear h;go_in
 go_wp2
 go_loopg [1,5] n (λgk tt ii wr=>∃k:Nat,b9 (gk+k=n)/\ii=U k/\tt=U ((E+k:Nat):Int)/\b9 (A5 A9 9 wr base (GI a n cap) (Jy E k++L.drop k))/\b9 (Below base w wr))
 ·exact⟨0,I j0,rfl,rfl,HO,I (bz _ _)⟩
 obtain⟨k,HK,rfl,rfl,G,Z⟩:=hrel;have PE:=ST k;by_cases hlt:k<n
 ·obtain⟨g,rfl,hb,JW,JK⟩:=G.block hlt;have⟨b,o,x,e,hx,hc⟩:=G.Hr.at hlt;obtain⟨rfl,rfl⟩:=aM e;clear e;have q0:wr.cell? (O g k)=some (aE (bs x)):=by simpa[A9]using hc 0 _ rfl
  have HQ:=I q0;have G4:=Rd k n;have K:=I (rD (w:=wr) (E+k) j0 j0);have⟨u,HU⟩:=GT (bs (Vx (E+k)));rw[<-HU.o]at K;have EB:=I hb;clear hc hx JW JK hb q0;go_wp2_with fail;refine i7 K λw2 hx=>?_;have Ec:=I (G.ext hx);have q0:=hx.o6 HQ.o;obtain⟨g',e',_,JW,JK⟩:=Ec.block hlt;obtain rfl:=AA e';clear e';have hf:=JW k;have FP:b9 ((Jy E k++L.drop k).set k (Vx (E+k))=Jy E (k+1)++L.drop (k+1)):=ZW JO;have B9:=I (show A5 A9 9 (w2.setCell (O g k) (aE u)) base (EQ g n cap) (Jy E (k+1)++L.drop (k+1))by
   rw[<-FP.o,HU.o];exact Ec.setT k _)
  have En:b9 (Below base w (w2.setCell (O g k) (aE u))):=(NN Z.o (Below.mono hx (fy EB.o (Nat.le_of_lt (G.lt g rfl).2)))).setCell (p:=(O g k)) EB.o _;clear JW JK;go_wp2_with fail;refine er ?_;exact⟨k+1,I (k8 HK.o),by go_num,by go_num,B9,En⟩
 have DV:k=n:=k8 HK.o;subst DV;have HE:=I (show Jy E k++L.drop k=Jy E k by rw[List.drop_of_length_le b6,C3]);rw[HE.o]at G;go_wp2;go_ret;exact⟨rfl,G,Z⟩
theorem nd{cap:Nat}(E:Nat)(h:GL A9 w a n cap (Jy E n))(h0:1<=E)(h1:E+n<=1000000):
 f8 8 #[GI a n cap,U E] w (U ((E+n:Nat):Int)):=by
 have⟨hnc,K3⟩:=h.aq9;have HS:=I h;clear h;unfold f8;go_in
 go_wp2
 go_loopg [1,5] n (λgk tt ii wr=>∃k:Nat,b9 (gk+k=n)/\ii=U k/\tt=U ((E+k:Nat):Int)/\b9 (C7 w wr))
 ·exact JY
 obtain⟨k,HK,rfl,rfl,HX⟩:=hrel;have PE:=ST k;by_cases Z:k<n
 ·obtain⟨b,o,x,rfl,hx,hc⟩:=(HS.ext HX).at Z;obtain rfl:Vx (E+k)=x:=tu ((ZX Z).symm.trans hx);have q0:wr.cell? (O b (o+k))=some (aE (bs (Vx (E+k)))):=by simpa[A9]using hc 0 _ rfl
  have G4:=Rd k n;have HMT:=I (λ(w':J)=>rD (w:=w') (E+k) j0 j0);have⟨u,hu⟩:=e9 (bs (Vx (E+k)));rw[<-hu]at q0;simp only[<-hu]at HMT;have hq:(u.toList == u.toList)=true:=j7;have LM:=I (λ(w':J) (G:C7 wr w')=>(⟨G.o6 q0,trivial⟩:w'.cell? (O b (o+k))=some (aE u)/\True));have G:=C7.drew wr;clear hc hx hu q0;go_upto_region 4 with fail;refine mc LM G λo9=>?_
  refine mq ⟨?_⟩;refine tk 3 ?_;refine tk 4 ?_;refine rd 5 λK hK=>?_;go_simp
  (go_at_call 13;refine i7 (HMT _) λw2 hx=>?_;have G:=G.trans hx)
  go_wp2_with fail;refine KO (LM _ G) λo9=>?_;refine tk 6 ?_;refine Pi j8 ?_ _;have HXD:=I (HX.trans G);go_wp2_with fail;refine er ?_;exact⟨k+1,I (k8 HK.o),by go_num,by go_num,HXD⟩
 have DV:k=n:=k8 HK.o;subst DV;go_wp2;go_ret;exact⟨rfl,HX⟩
theorem np {w: J}(htab : Lib.TabIs prog w "internal/strconv.uint64pow10" .u64 Lib.pow10Tab)(hml : vl w)(t : List UInt8) :
 f8 3 #[aE (bs t)] w (bl true):=by
 have hsz:(bs t).size=JL t:=aY t;by_cases hb:JL t<=1048576
 ·refine t8 htab hml (λ(w':J)=>xM (w:=w') t hb) λHTB HML HS=>?_;have HI:=I (λ(w':J) (hx:C7 w w')=>wE (ec HTB.o hx) (HML.ext hx) t hb);have⟨B,hB⟩:=e9 (decide (JL (DR 10 t)<=60));have J9:JL (Pv t)<=60:=by
   unfold Pv;split
   ·next h=>rw[(ol (λx hx=>fy (kE hx) hb) _).2];exact h
   exact gi _
  have⟨R,hR⟩:=e9 (Pv t);simp only[<-hB,<-hR]at HS HI;rw[<-hR]at J9;have⟨tt,Es⟩:=e9 (bs t);simp only[<-Es]at HS HI;rw[<-Es]at hsz;rw[<-Es];have hle:¬(tt.size:Int) > 1048576:=j0;have Fq:=I J9;clear htab hml hB hR J9 Es hsz hb;unfold f8;go_in
  go_wp2_with fail;refine PP (HS _) λw1 v1 ho X1=>?_;obtain⟨a1,n1,c1,rfl,HN1⟩:=ho.var;have S1:=I ho.Hr;have FT:n1<=60:=by have h1:=HN1.o;have h2:=Fq.o;omega
  clear ho;go_wp2_with fail;refine PP (HI _ X1) λw2 v2 ho X2=>?_;obtain⟨a2,n2,c2,rfl,Hb⟩:=ho.var;have O2:=I ho;have S12:=I (S1.ext X2);have Nf:n2<=60:=by have h1:=Hb.o;have h2:=Fq.o;omega
  have QR:=I (pA (L:=R) (L':=R) ho.Hr S12);rw[UV rfl]at QR;clear ho;have FD:(B != B)=false:=j7;go_wp2_with fail;refine i7 QR λw3 X3=>?_;have O3:=I (O2.ext X3);have S13:=I (S12.ext X3);have HM:=I (vt O3.o 1 (i8 _) j0);go_wp2_with fail;refine HM.mono ?_;rintro e w4 ⟨rfl,ho,hx⟩;refine Op hx ho (nd 1 ho.Hr (i8 _) j0) (S13.o) λX4 O4 HH S14=>?_;clear ho hx;go_wp2_with fail;refine i7 HH λw5 X5=>?_;have O5:=I (O4.ext X5);have Ih:¬(((1+n2:Nat):Int)<0):=j0;have F':(((1+n2:Nat):Int) != ((1+n2:Nat):Int))=false:=j7;have E15:b9 (C7 w1 w5):=C7.trans (show C7 w1 w4 from NN (X2.trans X3) X4) X5;have S15:=I (S1.ext E15);go_wp2_with fail;refine PP (HI _ (X1.trans E15)) λw6 v6 ho X6=>?_;obtain⟨a6,n6,c6,rfl,Ia⟩:=ho.var;have GB:=I (pA (L:=R) (L':=R) ho.Hr (S15.ext X6));rw[UV rfl]at GB;have O6:=I (O5.ext X6);clear ho;go_wp2_with fail;refine i7 GB λw7 X7=>?_;have HH2:=I (nd 1 (O6.ext X7).Hr (i8 _) j0);go_wp2_with fail;refine i7 HH2 λw8 X8=>?_;go_wp2;go_ret;exact⟨rfl,X1.trans (E15.trans (X6.trans (X7.trans X8)))⟩
 have⟨tt,Es⟩:=e9 (bs t);rw[<-Es]at hsz;rw[<-Es];have hle:(tt.size:Int) > 1048576:=j0;clear Es hsz hb htab hml;exact PR
end Go.Proofs.YtooiaklfmodcbaaGreatDoor
namespace Go.Proofs.YtooiaklfmodcbaaGreatDoor
open Ending renaming returned->ar
open List renaming length->JL
open Obj renaming cells->QD
open Value renaming slice->GI,bool->bl,string->aE,pointer->aP
open Go
variable{H:Type}{enc:TypeId×arQ->H}
theorem pg{a:Assume}{C:Checked}{os:Os}{f:FuncId}{G:Func}{s:ChangeSpec}{conds:List PathCond}{apart fresh handsOn again:Bool}{X:J->Array arQ->Prop}
 (hX:∀(w w':J) (args:Array arQ),w.heap=w'.heap->X w args->X w' args)
 (own:ownKnob C.prog.godebug=none) (started:os.Started) (K:C.prog.inits.idxOf? f=none) (hfn:C.prog.funcs[f]?=some G)
 (witness:∃(w:J) (tape:Tape) (i:Input),w.os=os/\(w.forCall tape i).Shaped C.prog/\i.vars=[]/\Input.okWide C.prog (w.forCall tape i) .any w f i /\
   ((s.pre enc C.prog G conds apart (w.forCall tape i).memory i.args/\X (w.forCall tape i).memory i.args)/\sizedMet enc C.prog G (OpenSpec.ofChange s) apart (w.forCall tape i).memory i.args)/\a.holds C.prog (lone (Frame.enter C.prog f i.args .normal) [] (w.forCall tape i)))
 (E:∀(W:J) (base:Nat) (args:Array arQ) (ds gs:List (DataW H)) (before:List MemPlace),
   (∀(j:Nat) t v,G.params[j]?=some t->args[j]?=some v->Value.okWide C.prog W .any base t v) ->
   DataW.Whole enc C.prog G.params.toList s.vars apart W args.toList ds gs before->X W args->W.ShapedOpen C.prog ->
   Calls C.prog f args W λe W'=>∃v,e=ar v/\s.post enc C.prog G apart fresh handsOn again W args v W') :
 ReturnsInHanded a C os f .any (λw args=>(s.pre enc C.prog G conds apart w args/\X w args)/\sizedMet enc C.prog G (OpenSpec.ofChange s) apart w args) (s.post enc C.prog G apart fresh handsOn again):=by
 refine returnsInHanded_of_calls own started K witness ?_;intro w tape i _ hsh _ DL Z hholds;obtain⟨_,_,_,fn',hfn',_,_,_,_,Q⟩:=DL;obtain rfl:fn'=G:=tu (hfn'.symm.trans hfn);obtain⟨⟨⟨ds,gs,before,hw,hc⟩,hx⟩,hz⟩:=Z;have hw':=DataW.Whole.of_heap (w':=w.forCall tape i) j9 hw;refine(E (w.forCall tape i) w i.args ds gs before Q hw' (hX _ _ _ j9 hx) hsh).mono λe W' ⟨v,he,hp⟩=>?_;subst he;exact ChangeSpec.post_blind hp
end Go.Proofs.YtooiaklfmodcbaaGreatDoor
namespace Go.Proofs.YtooiaklfmodcbaaGreatDoor.fnExactRunSession
open Ending renaming returned->ar
open List renaming length->JL
open Obj renaming cells->QD
open Value renaming slice->GI,bool->bl,string->aE,pointer->aP
open Go.Proofs.Tryz
open Go Go.Proofs.YtooiaklfmodcbaaGreatDoor
open Go.ChangeShapes Go.WideShapes Go.ChangeAt Go.RowKit Go.Joins
set_option maxRecDepth 100000
def own:ownKnob prog.godebug=none:=by kernel_rfl
def Yn:laidOutB prog=true:=by kernel_rfl
def S4 {W : J} (h : laidMetH prog Rows.fnExactRunSessionRow.laid W) : Lib.TabIs prog W "internal/strconv.uint64pow10" .u64 Lib.pow10Tab := by
 rw [MakeChecks.laidMetH_plain _ _ _ (by kernel_rfl)] at h;have h2 : laidMet prog (("internal/strconv.uint64pow10", Lib.tabData .u64 Lib.pow10Tab) :: [("unicode/utf8.acceptRanges", Rows.laid_unicode_utf8_acceptRanges), ("unicode/utf8.first", Rows.laid_unicode_utf8_first)]) W := (show laidMet prog (_ :: _ :: ("internal/strconv.uint64pow10", Rows.laid_internal_strconv_uint64pow10) :: [("unicode/utf8.acceptRanges", Rows.laid_unicode_utf8_acceptRanges), ("unicode/utf8.first", Rows.laid_unicode_utf8_first)]) W from h).tail.tail;exact Lib.tabIs_of_head (g := 3) (by kernel_rfl) (by kernel_rfl) Tryz.underlying272 Tryz.underlying221 (by kernel_rfl) (by kernel_rfl) h2
def RM{W:J}(h:W.ShapedOpen prog):vl W :=
 cell_of_shapedOpen_int (t:=3) (zero:=#[U 0]) h (by decide +kernel) j8 rfl j8 j8 rb
def L3(os:Os)(started:os.Started)(H:Type)(enc:TypeId×arQ->H):
 ReturnsInHanded {} Tryz.checked os 3 .any (λw args=>(Rows.fnExactRunSessionSpec.pre enc prog Tryz.f3 [] false w args/\laidMetH prog Rows.fnExactRunSessionRow.laid w)/\sizedMet enc prog Tryz.f3 (OpenSpec.ofChange Rows.fnExactRunSessionSpec) false w args)
  (Rows.fnExactRunSessionSpec.post enc prog Tryz.f3 false true false false):=by
 refine pg (C:=Tryz.checked) (X:=λw _=>laidMetH prog Rows.fnExactRunSessionRow.laid w) (λ_ _ _ hh h=>h.of_heap hh) own started j8 func3
  (ChangeSpec.witness_shaped (enc:=enc) (C:=Tryz.checked) (os:=os) (X:=λw _=>laidMetH prog Rows.fnExactRunSessionRow.laid w) false (World.laidAll prog os Rows.fnExactRunSessionRow.laid) #[aE ⟨#[]⟩] 8 (World.laidAll_os _ _ _)
    (World.shaped_of_ZipB j8 j8) j8 j8 j8
    (by rw[MakeChecks.laidMetH_plain _ _ _ j8];exact laidMet_laidAll _ j8 j8)) ?_
 intro W base args ds gs before E hW hL Z;have G:∀(j:Nat) t v,Tryz.f3.params[j]?=some t->args[j]?=some v->Value.okWide prog W .any base t v:=E;have hW':=hW;obtain⟨p,q,hA0,hV,rfl,JW,hnd⟩:=hW;have hA:DataW.TrodAll enc prog W 0 (λ_=>true) true Tryz.f3.params.toList args.toList ds p:=hA0;rw[Tryz.params3]at hA G;obtain⟨v0,vs0,d0,ds0,p0,q0,hargs,rfl,rfl,h0,r0⟩:=trodAll_cons hA;obtain⟨rfl,rfl,rfl⟩:=trodAll_nil r0;obtain rfl:args=#[v0]:=by cases args;simp_all
 obtain⟨rfl,rfl⟩:=trodVars_none hV;have k0:=h0;have Q:∀x∈p0,x.block<W.heap.size:=by obtain⟨m,hm⟩:=k0;exact DataW.trod_lt m _ _ _ hm
 obtain⟨K,rfl,rfl,rfl,Ks⟩:=Go.ChangeMaps.open_string QU (G 0 9 v0 rfl rfl) h0;obtain⟨x0,rfl⟩:∃l,K=bs l:=⟨K.data.toList,by cases K;rfl⟩;clear hA0 E;refine(np (S4 hL) (RM Z) x0).mono λe W' ⟨he,XN⟩=>?_;subst he;exact⟨_,rfl,_,_,_,[],_,[],hW',trodAll_mk1 (shut_bool nS _),(trodAll_cons_mk (Below.trod Yn j8 (uf j8) k0 XN Q) trodAll_mk0),rfl,XN.frame _,λh=>by cases h⟩
end Go.Proofs.YtooiaklfmodcbaaGreatDoor.fnExactRunSession
