import Derived.Test.YthpahcbmpoknmaaGreatDoorPzG48
set_option linter.all false
set_option maxHeartbeats 6000000
set_option maxRecDepth 100000
namespace Go.Proofs.YthpahcbmpoknmaaGreatDoor
open Ending renaming returned->atn
open List renaming length->Lp
open Obj renaming cells->SH
open Value renaming slice->FB,bool->ato,string->atr,pointer->ats
open Go.Proofs.Tryz Go.RowKit Go.ChangeShapes Go.WideShapes Go.ChangeAt Go.Joins Go.Deep
variable{σ:Prop}
def UJ(h:σ:=by rw[<-HO.v.ints.hlen];exact Gm):σ:=h
def mm(h:σ:=by rw[<-HO.x.rats.hlen];exact F0):σ:=h
def OA(h:σ:=by simp[results,results50,go_sem];rfl):σ:=h
variable{w w':J}{cb n base:Nat}{v:atY}{a:o6}{l L:List (List UInt8)}
theorem lJ{b:Nat}(h:w'.heap[b]?=w.heap[b]?)(o:Nat):w'.cell? (IM b o)=w.cell? (IM b o):=by
 simp only[World.cell?,h]
theorem uQ{bn bc:Nat}{ba:o6}{i i' h v:Int}(hb:w.heap[cb]?=some (SH #[FB ba bn bc,U i,U h] 72 (0,0)))(SF:gT w ba bn bc)
 (h0:0<=i') (h1:i'<=bn) (G:∀b off,ba=some (IM b off)->0<bn->b<cb) {W0 W:J} (Q:W0.heap[cb]?=some (SH #[FB ba bn bc,U i',U v] 72 (0,0))) (hg:w.grownBy W0 (some cb)) (hW:D4 W0 W):LI W cb/\w.grownBy W (some cb):=by
 have K:gT W0 ba bn bc:=by
  refine⟨SF.y7,SF.y8,λj Z=>?_⟩;have⟨b,off,e,hc⟩:=SF.cell j Z;refine⟨b,off,e,λj Z=>?_⟩;have⟨y,hy,F7⟩:=hc j Z;refine⟨y,(lJ (hg.block b (vM _ _ hy) (λe2=>Nat.ne_of_lt (G b off e O) (iv e2))) _).trans hy,F7⟩
 exact⟨⟨ba,bn,bc,i',v,(hW.block _ (IO Q)).trans Q,K.ext hW,h0,h1,G⟩,ms hg (gP none hW) (λk hk=>by cases hk)⟩
theorem Q5(x:Int)(m:Nat)(hm:m<2147483648):0<=bits .and .i64 x (m:Int)/\bits .and .i64 x (m:Int)<=m:=by
 have G:(BitVec.ofInt 64 (m:Int)).toNat=m:=by rw[TI,VL];exact xi O
 have e:bits .and .i64 x (m:Int)=IntKind.i64.wrap ((BitVec.ofInt 64 x &&& BitVec.ofInt 64 (m:Int)).toNat:Int):=rfl;rw[e,BitVec.toNat_and,G];have:=Nat.and_le_right (n:=(BitVec.ofInt 64 x).toNat) (m:=m);rw[j0];omega
theorem pF(x:Int):0<=bits .and .i64 x 255/\bits .and .i64 x 255<=255:=Q5 x 255 O
theorem O6{cap:Nat}(h:gT w a n cap)(hn:n<=1048576):
 Calls prog 18 #[FB a n cap] w λe w'=>(∃cb,e=atn (ats (some (IM cb 0)))/\w.heap.size<=cb/\LI w' cb)/\D4 w w':=by
 have⟨y7,y8⟩:=h.ath;have HB:=I h;have HLT:=I (show∀b off,a=some (IM b off)->0<n->b<w.heap.size by
  intro b off e Z;obtain⟨b',off',x,e',hc,_⟩:=h.at Z;rw[e]at e';obtain⟨rfl,rfl⟩:=er e';clear e';exact vM _ _ hc)
 go_in
 go_wp2
 go_loop [3,4] (λhh Q=>∃(k:Nat) (K:Int),k<=n/\Q=U k/\hh=U K) (λ_ Q=>n-(intOf Q).toNat)
 ·exact⟨0,_,ef _,rfl,rfl⟩
 obtain⟨k,K,hk,rfl,rfl⟩:=hrel;by_cases hlt:k<n/\k<4000
 ·obtain⟨Zv,F4⟩:=hlt;obtain⟨b,off,x,rfl,hc,B9,B0⟩:=HB.at Zv;go_wp2
  go_round
  case rel=>exact⟨k+1,_,by omega,by go_num,rfl⟩
  exact k9
 have G:¬k<n∨(k<n/\¬k<4000):=O;have HP:=I (show LI (w.alloc (SH #[FB a n cap,U 0,U K] 72)) w from
  ⟨a,n,cap,0,K,nE _ _,HB.ext ZL,by omega,by omega,λb off e Z=>by have:=HLT.o b off e Z;omega⟩)
 rcases G with G|⟨hge1,hge2⟩
 all_goals
  go_wp2;go_ret;exact⟨⟨_,rfl,m9 _,HP⟩,ZL⟩
theorem lq(h:LI w cb):
 Calls prog 50 #[ats (some (IM cb 0))] w λe w'=>(∃x:Int,e=atn (U x)/\0<=x/\x<=255)/\LI w' cb/\w.grownBy w' (some cb):=by
 obtain⟨ba,bn,bc,i,hv,hb,SF,h0,h1,G⟩:=h;have hl:=IO hb;have c0:w.cell? (IM cb 0)=some (FB ba bn bc):=by rw[UV w cb 0 _ _ _ hb];rfl
 have c1:w.cell? (IM cb 1)=some (U i):=by rw[UV w cb 1 _ _ _ hb];rfl
 have c2:w.cell? (IM cb 2)=some (U hv):=by rw[UV w cb 2 _ _ _ hb];rfl
 have f1:w.frozen? (IM cb 1)=false:=fy w cb 1 _ _ hb;have f2:w.frozen? (IM cb 2)=false:=fy w cb 2 _ _ hb;refine Fn SF hb G λQ HB NZ=>?_;have⟨y7,y8⟩:=SF.ath;by_cases hlt:i<bn
 ·obtain⟨k,rfl⟩:∃k:Nat,i=k:=⟨i.toNat,by omega⟩;obtain⟨b,off,x,rfl,hc,B9,B0⟩:=Q.at (k:=k) O;have hbne:b≠cb:=Nat.ne_of_lt (NZ b off rfl O);go_in
  have hbne':¬cb=b:=λe=>hbne e.symm
  have IG:0<=(k:Int)+1:=O;have hkj:(k:Int)+1<=9223372036854775807:=O;have K:=I (λ(v:Int) (W:J) (hW:F8 ((w.setCell (IM cb 2) (U v)).setCell (IM cb 1) (U ((k:Int)+1))) W) =>
   uQ (i':=(k:Int)+1) (v:=v) HB.o Q.o IG O NZ.o (W0:=(w.setCell (IM cb 2) (U v)).setCell (IM cb 1) (U ((k:Int)+1)))
    (by rw[aM _ _ _ _ _ _ (aM _ _ _ _ _ _ HB)];rfl)
    ⟨rfl,rfl,rfl,by simp,λj Z G=>by
     have Z:j≠cb:=λe=>G (by rw[e])
     rw[If _ _ _ _ Z,If _ _ _ _ Z]⟩ hW.ext)
  go_wp2_with rfl
  go_quiet (fail)
  go_wp2_with rfl
  go_quiet (fail)
  go_wp2_with rfl
  go_quiet (fail)
  go_wp2;refine GE (v:=U _) OA rfl ⟨⟨_,rfl,(pF _).1,(pF _).2⟩,K.o _ _ ⟨_,rfl⟩⟩
 have K:=I (λ(v:Int) (W:J) (hW:F8 (w.setCell (IM cb 2) (U v)) W) =>
  uQ (i':=i) (v:=v) HB.o Q.o h0 h1 NZ.o (W0:=w.setCell (IM cb 2) (U v))
   (by rw[aM _ _ _ _ _ _ HB.o];rfl)
   ⟨rfl,rfl,rfl,by simp,λj Z G=>by
    have Z:j≠cb:=λe=>G (by rw[e])
    rw[If _ _ _ _ Z]⟩ hW.ext)
 go_in
 go_wp2_with rfl
 go_quiet (fail)
 go_wp2_with rfl
 go_quiet (fail)
 go_wp2;refine GE (v:=U _) OA rfl ⟨⟨_,rfl,(pF _).1,(pF _).2⟩,K.o _ _ (F8.trans ⟨_,rfl⟩ ⟨_,rfl⟩)⟩
def G5(w:J)(cb:Nat)(lo hi:Int)(e:Ending)(w':J):Prop:=(∃x:Int,e=atn (U x)/\lo<=x/\x<=hi)/\LI w' cb/\w.grownBy w' (some cb)
theorem dK{K G:J}(h:w.grownBy K (some cb))(k:K.grownBy G (some cb)):w.grownBy G (some cb):=ms h k (λk Q=>.inl Q)
theorem fQ(h:LI w cb)(n:Int)(hn:1<=n):
 Calls prog 19 #[ats (some (IM cb 0)),U n] w (G5 w cb 0 (n-1)):=by
 have H:=I h;have QN:¬n<=0:=O;have hnz:(n == 0)=false:=t8;by_cases hle:n<=256
 ·go_in
  go_wp2_with rfl;refine(lq H).mono ?_;rintro e G ⟨⟨x,rfl,B9,B0⟩,hc,hg⟩;have Z:=I hc;have K:=I hg;go_wp2;go_ret;refine⟨⟨_,rfl,ZG _ O,?_⟩,Z,K⟩;have:=kn x (show 0<n by omega);omega
 go_in
 go_wp2_with rfl;refine(lq H).mono ?_;rintro e G ⟨⟨x,rfl,B9,B0⟩,hc,hg⟩;have H1:=I hc;have G1:=I hg;go_wp2_with rfl;refine(lq H1).mono ?_;rintro e w2 ⟨⟨y,rfl,JB,F7⟩,hc,hg⟩;have H2:=I hc;have G2:=I (dK G1.o hg);go_wp2_with rfl;refine(lq H2).mono ?_;rintro e w3 ⟨⟨z,rfl,Hl,Mh⟩,hc,hg⟩;have H3:=I hc;have G3:=I (dK G2.o hg);go_wp2_with rfl;refine(lq H3).mono ?_;rintro e w4 ⟨⟨u,rfl,Li,LP⟩,hc,hg⟩;have H4:=I hc;have G4:=I (dK G3.o hg);go_wp2;go_ret;refine⟨⟨_,rfl,ZG _ O,?_⟩,H4,G4⟩;have:=kn (x*16777216+y*65536+z*256+u) (show 0<n by omega);omega
theorem Af(h:LI w cb){cap:Nat}{l:o7}(Q:d6 w a n cap l)(hn:1<=n)(K:∀b off,a=some (IM b off)->b≠cb):
 Calls prog 53 #[ats (some (IM cb 0)),FB a n cap] w λe w'=>(∃k:Nat,k<n/\e=atn (U (l[k]?.getD 0)))/\LI w' cb/\w.grownBy w' (some cb):=by
 have⟨y7,y8⟩:=Q.ath;refine Fn (fQ h (n:Int) O) Q K λH HL HN=>?_;go_in
 go_wp2_with rfl;refine H.mono ?_;rintro e w1 ⟨⟨x,rfl,B9,B0⟩,hc,hg⟩;obtain⟨k,rfl⟩:∃k:Nat,x=k:=⟨x.toNat,by omega⟩;have Z:k<n:=O;obtain⟨b,off,rfl,G⟩:=HL.at Z;have agp:w1.cell? (IM b (off+k))=some (U (l[k]?.getD 0)) :=
  (lJ (hg.block b (vM _ _ G) (λe=>HN.o b off rfl (iv e))) _).trans G
 have HC:=I hc;have HG:=I hg;go_wp2;go_ret;exact⟨⟨k,Z,rfl⟩,HC,HG⟩
def Hz(L:List (List UInt8)):Nat->St×List (List UInt8)
 | 0=>(⟨0,[],[]⟩,[])
 | k+1=>((cJ (Hz L k).1 (L[k]?.getD [])).1,(Hz L k).2++[(cJ (Hz L k).1 (L[k]?.getD [])).2])
theorem pg{L:List (List UInt8)}(G:∀x∈L,Lp x<=1048576):∀k,Bd (Hz L k).1/\(Hz L k).2.length=k
 | 0=>⟨⟨ef _,ef _⟩,rfl⟩
 | k+1=>⟨AB (pg G k).1 (by
     by_cases h:k<Lp L
     ·rw[In h,NE];exact G _ (cP h)
     rw[mq O];exact ef _),by show((Hz L k).2++[_]).length=_;rw[ar,(pg G k).2];rfl⟩
def Si(t:List UInt8):List (List UInt8):=if(E0 10 t).length<=60 then(Hz (E0 10 t) (Lp (E0 10 t))).2 else []
theorem aG.beside{base':Nat}{b:o6}{cap m K:Nat}{V:o7}{X:o3}(h:aG w base a n cap b m K V X)(ho:A9 B6 9 w base' v l)(hg:w.grownBy w' v.ownBlock):aG w' base a n cap b m K V X :=
 ⟨h.v.keep λj G=>hg.block j (h.v.lt j G).2 λe=>aD (show(3:Nat)≠9 by decide) h.v ho j G e.symm,h.x.keep λj G=>hg.block j (h.x.lt j G).2 λe=>aD (show(80:Nat)≠9 by decide) h.x ho j G e.symm⟩
theorem C6.beside{r:Nat}{x y z:atY}(h:C6 w r x y z)(ho:A9 B6 9 w base v l)(hg:w.grownBy w' v.ownBlock):C6 w' r x y z :=
 (hg.block r (IO h) λe=>aq ho h FS e).trans h
def Nr(h:σ:=by
 have Ri:=I (show C6 w6 r (U p5) (FB a5 n5 k5) (FB b5 m5 d5)by rw[IL];exact C6.put Lv.o _ _ _);have Gp:=I (show aG w6 w.heap.size a5 n5 k5 b5 m5 d5 V5 X5 by rw[IL];exact aG.put Fj.o Lv.o _ _ _);have V8:=I (show A9 B6 9 w6 w1.heap.size (FB a4 n4 c4) A by rw[IL];exact(HA.ext Hh).Gx Lv.o _ _ _);have Hg:=I (show D4 w1 w6 by rw[IL];exact(HX.trans Hh).Gx HRG.o _ _ _);go_upto_region 11 with rfl;rw[<-IL];clear IL c0 c1 c2 cf d0 d1 d2 df;have Hi:=I (ID.lit B6 9 w6 [t5] 1 rfl #[atr (bs t5)] rfl w6.heap.size rfl O);rw[<-SN.o]at Hi
 go_wp2_with (at_builtin;refine dt B6 Tryz.Gb rfl Jw FS rfl _ _ rfl w1.heap.size (FB a4 n4 c4) A rfl (V8.ext ZL) _ 1 1 [t5] rfl Hi.o (l8 WH.o) (by have:=Hg.size;simp;omega) ?_;intro v7 w7 ho hg r';have Kb:=I ((Gp.ext ZL).beside (V8.ext ZL) hg);have HR7:=I (C6.beside (ZL.blk Ri) (V8.ext ZL) hg);have RL:=I (aj (Hg.trans ZL) hg (λj hj=>(V8.lt j hj).1));obtain⟨a7,n7,c7,rfl,Ma⟩:=ho.var;have HA7:=I ho;clear ho hg r')
 refine dk ?_;exact⟨k+1,_,_,_,_,_,_,_,_,_,_,_,_,_,I (l8 HK.o),rfl,by go_num,NX,HA7,HR7,Kb,RL⟩
 ):σ:=h
def Tq(h:σ:=by
 have E':k=n1:=by have:=HK.o;omega
 have HZR:=I (show Z=A by rw[HZ.o,<-E',GN.o]);have IG:¬(k:Int)<(n1:Int):=by omega
 clear E';go_wp2;refine GE (v:=.tuple #[FB a4 n4 c4,ato true]) (by simp[results,qq0,go_sem]) rfl ⟨⟨_,by rw[Qj.o],by rw[HZR.o];exact HA.mono A6.size⟩,A6.trans HX.o⟩
 ):σ:=h
theorem xL {w: J}(htab : tIw w)(hml : nf w)(t : List UInt8)(ht : Lp t <= 1048576) :
 Calls prog 7 #[atr (bs t)] w λe w'=>(∃v,e=atn (.tuple #[v,ato (decide (Lp (E0 10 t)<=60))])/\A9 B6 9 w' w v (Si t))/\D4 w w':=by
 have Gc:=I (jz (w:=w) t 10 O);have UM:=show Si t=if(E0 10 t).length<=60 then(Hz (E0 10 t) (Lp (E0 10 t))).2 else []from rfl
 have NK:∀x∈E0 10 t,Lp x<=1048576:=λx hx=>bR (lu hx) ht
 have Gv:=pg NK;generalize Si t=Z at UM⊢;generalize E0 10 t=L at Gc UM NK Gv⊢;generalize bs t=tt at Gc⊢;have K8:=I UM;have⟨B,Hy⟩:=Ok (decide (Lp L<=60));rw[<-Hy.o];refine Op NK Gv htab hml λOW E6 HTB HML=>?_;clear NK htab hml ht UM Gv;go_in
 go_wp2_with rfl;refine yf Gc λw1 v ho hx=>?_;obtain⟨a1,n1,c1,rfl,HN1⟩:=ho.var;have⟨Nk,Ng⟩:=ho.JG.ath;have A6:=I hx;have JE:=I ho.JG;clear ho hx;have Hy:=I (show B=decide (n1<=60)by rw[Hy.o,HN1.o]);by_cases hn:n1<=60
 ·have hng:¬(60:Int)<(n1:Int):=by omega
  have Qj:=I (Hy.trans (bl hn));have HZ:=I (show Z=(Hz L n1).2 by rw[K8.o,HN1.o,i7 hn]);have⟨w2,hw2⟩:=j7 (w1.alloc (SH #[U 0,d9,d9] 34));have GL:=I (show C6 w2 w1 (U 0) d9 (d9)by rw[hw2];exact LE rfl);have C7:=I (show D4 w1 w2 by rw[hw2];exact ZL);go_upto_region 5 with rfl;rw[<-hw2];clear hw2;have⟨r,hr⟩:=j7 w1.heap.size;have HRG:=I (show w1.heap.size<=r by rw[hr];exact m9 _);rw[<-hr]at GL⊢;clear hr;go_wp2
  go_loopg [6,20] n1 (λgk tt kk wr=>∃(k:Nat) (a4:o6) (n4 c4:Nat) (A:List (List UInt8)) (p:Int) (V:o7) (X:o3) (a:o6) (n cap:Nat) (b:o6) (m dap:Nat),e9 (gk+k=n1)/\tt=FB a4 n4 c4/\kk=U k/\e9 (Hz L k=(⟨p,V,X⟩,A))/\e9 (A9 B6 9 wr w1 (FB a4 n4 c4) A)/\e9 (C6 wr r (U p) (FB a n cap) (FB b m dap))/\e9 (aG wr w a n cap b m dap V X)/\e9 (D4 w1 wr))
  ·exact⟨0,_,_,_,[],0,[],[],_,_,_,_,_,_,I O,rfl,rfl,I rfl,I (A9.Ft B6 9 w2 w1 _ rfl C7.size),I (ZL.blk GL),I ⟨y4,og⟩,I (C7.trans ZL)⟩
  obtain⟨k,a4,n4,c4,A,p,V,X,a,n,cap,b,m,dap,HK,rfl,rfl,GN,HA,HB,HO,HX⟩:=hrel;by_cases hlt:k<n1
  ·obtain⟨lb,lo,x0,rfl,Mk,Fo⟩:=(JE.ext HX).at hlt;have q0:wr.cell? (IM lb (lo+k))=some (atr (bs x0)):=by simpa[B6]using Fo 0 _ rfl
   have⟨⟨Gm,F0⟩,PR⟩:=E6.o k;rw[GN.o]at Gm F0 PR;have WH:=I (show Lp A<=60 by have:Lp A=k:=PR;omega);have Ot:=I (ix (w:=wr) (p:=p) HO.v.ints HO.x.rats UJ mm (dP HTB.o (A6.trans HX)) (HML.ext (A6.trans HX)) x0 (OW x0 (MV Mk)));have NX:=I (show Hz L (k+1)=((cJ ⟨p,V,X⟩ x0).1,A++[(cJ ⟨p,V,X⟩ x0).2])by
    show((cJ (Hz L k).1 (L[k]?.getD [])).1,(Hz L k).2++[(cJ (Hz L k).1 (L[k]?.getD [])).2])=_;rw[GN.o,Mk];rfl)
   obtain⟨⟨⟨p5,V5,X5⟩,t5⟩,hR⟩:∃R,R=cJ ⟨p,V,X⟩ x0:=⟨_,rfl⟩;rw[<-hR]at Ot NX;generalize bs x0=u0 at q0 Ot;have⟨c0,c1,c2,cf⟩:=C6.c HB.o;have IG:=SW k n1;clear Fo Mk hR Gm F0 PR;go_wp2_with rfl;refine Ot.mono ?_;rintro e w4 ⟨⟨a5,n5,k5,b5,m5,d5,rfl,ho⟩,hx⟩;have⟨w5,Gz⟩:=j7 (w4.alloc (SH #[U p5,FB a5 n5 k5,FB b5 m5 d5] 34));have e45:D4 w4 w5:=by rw[Gz];exact ZL
   refine Op (hx.trans e45) ((ho.mono (A6.trans HX).size).ext e45) (show C6 w5 w4 (U p5) (FB a5 n5 k5) (FB b5 m5 d5)by rw[Gz];exact LE rfl) ((hx.trans e45).blk HB) λHh Fj FG Lv=>?_;have⟨t0,SN⟩:=Ok (bs t5);go_upto_region 10 with rfl;rw[<-Gz,<-SN.o];clear Gz hx ho e45 c0 c1 c2 cf q0;generalize w4.heap.size=g5 at FG⊢;have⟨d0,d1,d2,df⟩:=C6.c FG.o;have⟨c0,c1,c2,cf⟩:=C6.c Lv.o;have⟨w6,IL⟩:=j7 (((w5.setCell (IM r 0) (U p5)).setCell (IM r 1) (FB a5 n5 k5)).setCell (IM r 2) (FB b5 m5 d5));exact Nr
  have qq0:=@results7;exact Tq
 have hng:=SW 60 n1;have HBF:=I (Hy.trans (RK hn));have HZ:=I (show Z=[]by rw[K8.o,HN1.o,f8 hn]);go_wp2;refine GE (v:=.tuple #[d9,ato false]) (by simp[results,results7,go_sem]) rfl ⟨⟨_,by rw[HBF.o],by rw[HZ.o];exact A9.nil _ _ _ _⟩,A6⟩
theorem yS(t:List UInt8)(ht:Lp t<=1048576):
 Calls prog 8 #[atr (bs t)] w λe w'=>(∃v,e=atn (.tuple #[v,ato (decide (Lp (E0 10 t)<=60))])/\A9 B6 9 w' w v (Si t))/\D4 w w':=by
 have Gc:=I (im (w:=w) t 10 O);have UM:=show Si t=if(E0 10 t).length<=60 then(Hz (E0 10 t) (Lp (E0 10 t))).2 else []from rfl
 have NK:∀x∈E0 10 t,Lp x<=1048576:=λx hx=>bR (lu hx) ht
 have Gv:=pg NK;generalize Si t=Z at UM⊢;generalize E0 10 t=L at Gc UM NK Gv⊢;generalize bs t=tt at Gc⊢;have K8:=I UM;have⟨B,Hy⟩:=Ok (decide (Lp L<=60));rw[<-Hy.o];have OW:=I NK;have E6:=I Gv;clear NK ht UM Gv;go_in
 go_wp2_with rfl;refine yf Gc λw1 v ho hx=>?_;obtain⟨a1,n1,c1,rfl,HN1⟩:=ho.var;have⟨Nk,Ng⟩:=ho.JG.ath;refine Fn hx ho.JG (λb hb=>(ho.lt b hb).2) λA6 JE HLO=>?_;clear ho hx;have Hy:=I (show B=decide (n1<=60)by rw[Hy.o,HN1.o]);by_cases hn:n1<=60
 ·have hng:¬(60:Int)<(n1:Int):=by omega
  have Qj:=I (Hy.trans (bl hn));have HZ:=I (show Z=(Hz L n1).2 by rw[K8.o,HN1.o,i7 hn]);have⟨w2,hw2⟩:=j7 ((w1.alloc (SH #[] 9)).alloc (SH #[U 0,d9,d9] 34));refine Fn (show C6 w2 (w1+1) (U 0) d9 (d9)by rw[hw2];exact LE j9) (show D4 w1 w2 by rw[hw2];exact ZL.trans ZL) (show A9 B6 9 w2 w1 (GT w1 0 0) []by rw[hw2];exact(A9.Ft B6 9 w1 w1 _ rfl (m9 _)).ext ZL) λGL C7 HA2=>?_;go_upto_region 6 with rfl;rw[<-hw2];clear hw2;have⟨r,hr⟩:=j7 (w1.heap.size+1);have HRG:=I (show w1.heap.size<=r by rw[hr];omega);rw[<-hr]at GL⊢;clear hr;go_wp2
  go_loopg [5,7] n1 (λgk tt kk wr=>∃(k:Nat) (a4:o6) (n4 c4:Nat) (A:List (List UInt8)) (p:Int) (V:o7) (X:o3) (a:o6) (n cap:Nat) (b:o6) (m dap:Nat),e9 (gk+k=n1)/\tt=FB a4 n4 c4/\kk=U k/\e9 (Hz L k=(⟨p,V,X⟩,A))/\e9 (A9 B6 9 wr w1 (FB a4 n4 c4) A)/\e9 (C6 wr r (U p) (FB a n cap) (FB b m dap))/\e9 (aG wr w a n cap b m dap V X)/\e9 (D4 w1 wr))
  ·exact⟨0,_,_,_,[],0,[],[],_,_,_,_,_,_,I O,rfl,rfl,I rfl,HA2,GL,I ⟨y4,og⟩,C7⟩
  obtain⟨k,a4,n4,c4,A,p,V,X,a,n,cap,b,m,dap,HK,rfl,rfl,GN,HA,HB,HO,HX⟩:=hrel;have Ry:=aE k;by_cases hlt:k<n1
  ·obtain⟨lb,lo,x0,rfl,Mk,Fo⟩:=(JE.ext HX).at hlt;have q0:wr.cell? (IM lb (lo+k))=some (atr (bs x0)):=by simpa[B6]using Fo 0 _ rfl
   have⟨⟨Gm,F0⟩,PR⟩:=E6.o k;rw[GN.o]at Gm F0 PR;have WH:=I (show Lp A<=60 by have:Lp A=k:=PR;omega);have Ot:=I (λ(w':J) (hx:D4 wr w')=>ow (w:=w') (p:=p) (HO.v.ints.ext hx) (HO.x.rats.ext hx) UJ mm x0 (OW x0 (MV Mk)));have NX:=I (show Hz L (k+1)=((cJ ⟨p,V,X⟩ x0).1,A++[(cJ ⟨p,V,X⟩ x0).2])by
    show((cJ (Hz L k).1 (L[k]?.getD [])).1,(Hz L k).2++[(cJ (Hz L k).1 (L[k]?.getD [])).2])=_;rw[GN.o,Mk];rfl)
   obtain⟨⟨⟨p5,V5,X5⟩,t5⟩,hR⟩:∃R,R=cJ ⟨p,V,X⟩ x0:=⟨_,rfl⟩;simp only[<-hR]at Ot;rw[<-hR]at NX;have⟨u0,Li⟩:=j7 (bs x0);rw[<-Li]at q0;simp only[<-Li]at Ot;have⟨t0,SN⟩:=Ok (bs t5);have⟨c0,c1,c2,cf⟩:=C6.c HB.o;have L8:=I (IO HB);have IG:=SW k n1;have Us:=I (λ(w':J) (hk:D4 wr w')=>(⟨hk.o9 q0,hk.o9 c0,hk.o9 c1,hk.o9 c2⟩:w'.cell? (IM lb (lo+k))=some (atr u0)/\w'.cell? (IM r 0)=some (U p)/\w'.cell? (IM r 1)=some (FB a n cap)/\w'.cell? (IM r 2)=some (FB b m dap)));have hk:=D4.drew wr;clear Fo Mk hR Li Gm F0 PR q0 c0 c1 c2 cf;go_upto_region 9 with rfl
   go_cut [8,9] (λs8 s9 wx=>∃(g5:Nat) (a5:o6) (n5 k5:Nat) (b5:o6) (m5 d5:Nat),s8=ats (some (IM g5 0))/\s9=atr t0/\e9 (C6 wx g5 (U p5) (FB a5 n5 k5) (FB b5 m5 d5))/\e9 (aG wx w a5 n5 k5 b5 m5 d5 V5 X5)/\e9 (D4 wr wx)/\e9 (r<g5))
   case first =>
    refine kp Us hk λr9=>?_;refine ks ⟨?_⟩;refine tk 3 ?_;refine tk 4 ?_;refine TK (rs:=[5,9]) k8 j9 ?_;refine To (λK hK=>?_) ?_
    ·
     go_simp
     (go_at_call 13;refine(Ot _ hk).mono ?_;rintro e w4 ⟨⟨a5,n5,k5,b5,m5,d5,rfl,ho⟩,hx⟩;rw[<-SN.o];have Gh:=I (ho.mono ((A6.trans HX).trans hk).size);have hk:=hk.trans hx;clear ho hx)
     go_wp2_with rfl;refine KO (Us _ hk) λr9=>?_;refine tk 6 ?_;refine tk 7 ?_;refine tk 8 ?_;refine rd 9 λK hK=>?_;go_simp;refine hK.out _ _ ?_ (λr9=>?_)
     ·exact Us.o _ (hk.trans ZL)
     clear hK K
     try simp only[Act.put,sA,sB,sC]
     refine Op (show C6 (w4.alloc (SH #[U 0,d9,d9] 34)) w4 (U 0) d9 (d9)from LE rfl) (Gh.ext (D4.alloc w4 (SH #[U 0,d9,d9] 34))) (hk.trans (D4.alloc w4 (SH #[U 0,d9,d9] 34))) (show wr.heap.size<=w4.heap.size from hk.size) λG Fj HK5 Vd=>?_;have⟨w5,Gz⟩:=j7 (w4.alloc (SH #[U 0,d9,d9] 34));rw[<-Gz]at G Fj HK5 r9;rw[<-Gz];clear Gz hk;generalize w4.heap.size=g5 at G Vd⊢;have⟨d0,d1,d2,df⟩:=C6.c G.o;refine Op (show g5≠r by have:=L8.o;have:=Vd.o;omega) (C6.put G.o (U p5) (FB a5 n5 k5) (FB b5 m5 d5)) (aG.put Fj.o G.o (U p5) (FB a5 n5 k5) (FB b5 m5 d5)) (HK5.Gx Vd.o (U p5) (FB a5 n5 k5) (FB b5 m5 d5)) λHGR Ke Gp Hg=>?_;refine rd 10 λK hK=>?_;go_simp;refine KO (Us _ Hg) λr9=>?_;refine tk 11 ?_;refine ST k8 ?_ _;go_wp2;go_meet;exact⟨_,_,_,_,_,_,_,rfl,rfl,Ke,Gp,Hg,I (by have:=L8.o;have:=Vd.o;omega)⟩
    refine To (λK hK=>?_) R7
     
    have LY:=hk;have⟨wd,hwd⟩:=j7 wr.drew;rw[<-hwd]at hk r9 LY;rw[<-hwd];clear hwd;go_simp;refine hK.out _ _ ?_ (λr9=>?_)
    ·exact Us.o _ (hk.trans ZL)
    clear hK K
    try simp only[Act.put,sA,sB,sC]
    have Hc:e9 (C6 (wd.alloc (SH #[U 0,d9,d9] 34)) wd (U 0) d9 (d9)):=LE rfl;have hk:=hk.trans (D4.alloc wd (SH #[U 0,d9,d9] 34));have Vd:e9 (wr.heap.size<=wd.heap.size):=LY.size;have⟨w3,Gn⟩:=j7 (wd.alloc (SH #[U 0,d9,d9] 34));rw[<-Gn]at Hc hk r9;rw[<-Gn];clear Gn LY;generalize wd.heap.size=g5 at Hc Vd⊢;refine rd 5 λK hK=>?_;go_simp
    (go_at_call 13;refine(Ot _ hk).mono ?_;rintro e w5 ⟨⟨a5,n5,k5,b5,m5,d5,rfl,ho⟩,hx⟩;rw[<-SN.o];have Fj:=I (ho.mono ((A6.trans HX).trans hk).size);have hk:=hk.trans hx;have HK5:=I hk;have G:=I (hx.blk Hc);clear ho hx)
    go_wp2_with rfl;refine KO (Us _ hk) λr9=>?_;refine tk 6 ?_;refine tk 7 ?_;refine tk 8 ?_;have⟨d0,d1,d2,df⟩:=C6.c G.o;refine Op (show g5≠r by have:=L8.o;have:=Vd.o;omega) (C6.put G.o (U p5) (FB a5 n5 k5) (FB b5 m5 d5)) (aG.put Fj.o G.o (U p5) (FB a5 n5 k5) (FB b5 m5 d5)) (HK5.Gx Vd.o (U p5) (FB a5 n5 k5) (FB b5 m5 d5)) λHGR Ke Gp Hg=>?_;refine rd 10 λK hK=>?_;go_simp;refine KO (Us _ Hg) λr9=>?_;refine tk 11 ?_;refine ST k8 ?_ _;go_wp2;go_meet;exact⟨_,_,_,_,_,_,_,rfl,rfl,Ke,Gp,Hg,I (by have:=L8.o;have:=Vd.o;omega)⟩
   obtain⟨g5,a5,n5,k5,b5,m5,d5,rfl,rfl,G,Fj,Hh,Vd⟩:=hcut;have⟨d0,d1,d2,df⟩:=C6.c G.o;have Lv:=I (Hh.blk HB);have⟨c0,c1,c2,cf⟩:=C6.c Lv.o;have⟨w6,IL⟩:=j7 (((wc.setCell (IM r 0) (U p5)).setCell (IM r 1) (FB a5 n5 k5)).setCell (IM r 2) (FB b5 m5 d5));exact Nr
  have qq0:=@results8;exact Tq
 have hng:=SW 60 n1;have HBF:=I (Hy.trans (RK hn));have HZ:=I (show Z=[]by rw[K8.o,HN1.o,f8 hn]);go_wp2;refine GE (v:=.tuple #[GT w1 0 0,ato false]) (by simp[results,results8,go_sem]) rfl ⟨⟨_,by rw[HBF.o],by rw[HZ.o];exact A9.Ft B6 9 w1 w _ rfl A6.size⟩,A6.trans ZL⟩
def SN(w:J)(cb:Nat)(e:Ending)(w':J):Prop :=
 (∃(x:Int) (a:o6) (m cap:Nat) (V:o7),e=atn (.agg #[U x,FB a m cap])/\y9 w' w (FB a m cap) V/\m<=17)/\LI w' cb/\w.grownBy w' (some cb)
structure BS(w wr:J)(cb gb rb:Nat)(x:Int)(a:o6)(m cap:Nat)(V:o7):Prop where
 cur:LI wr cb
 gbk:wr.heap[gb]?=some (SH #[U x,FB a m cap] 31 (0,0))
 rbk:wr.heap[rb]?=some (SH #[U 0,d9] 31 (0,0))
 grown:w.grownBy wr (some cb)
 own:y9 wr w.heap.size (FB a m cap) V
 apart:gb≠cb/\rb≠cb/\rb≠gb/\w.heap.size<=gb/\w.heap.size<=rb
 free:∀k,(FB a m cap).ownBlock=some k->k≠gb/\k≠rb
abbrev Bx:=Nat->Option (Array atY×TypeId)
def Bx.nil:Bx:=λ_=>none
def Bx.upd(f:Bx)(b:Nat)(p:Array atY×TypeId):Bx:=λk=>if k=b then some p else f k
structure NG(w wr:J)(cb:Nat)(f:Bx):Prop where
 cur:LI wr cb
 grown:w.grownBy wr (some cb)
 box:∀b p,f b=some p->wr.heap[b]?=some (SH p.1 p.2 (0,0))/\b≠cb/\w.heap.size<=b
 dry:∀b p,f b=some p->∀(j:Nat) (y:Int),p.1[j]?≠some (Value.int .u8 y)
section
variable{w wr w':J}{cb b:Nat}{f:Bx}{p:Array atY×TypeId}
end
theorem Xs(h:LI w cb)(n:Int)(Q:1<=n):
 Calls prog 20 #[ats (some (IM cb 0)),U n] w λe w'=>(∃b,e=atn (ato b))/\LI w' cb/\w.grownBy w' (some cb):=by
 have H:=I (fQ h n Q);go_in
 go_wp2_with rfl;refine H.mono ?_;rintro e w1 ⟨⟨x,rfl,B9,B0⟩,hc,hg⟩;have K:=I hc;have G:=I hg;by_cases hx:x=0
 ·subst hx;go_wp2;go_ret;exact⟨⟨_,rfl⟩,K,G⟩
 have hx':(x == 0)=false:=by simp[hx]
 go_wp2;go_ret;exact⟨⟨_,rfl⟩,K,G⟩
section
variable{H:Type}{enc:TypeId×atY->H}{P:Program}{w:J}{base:Nat}{spare:Nat->Bool}{held:Bool}
theorem Vu{n:Int}(h:(Lit.int .u8 n).wf=true):0<=n/\n<=255:=by
 simp only[Lit.wf,cM,cq]at h;have h1:IntKind.u8.min=0:=by decide
 have h2:IntKind.u8.max=255:=by decide
 omega
end
section
variable{H:Type}{enc:TypeId×atY->H}{P:Program}{w:J}{base:Nat}{spare:Nat->Bool}{held:Bool}
theorem Cq{t e:TypeId}{fuel:Nat}{v:atY}{x:DataW H×List MemPlace}(ht:P.underlying t=some (.slice e))(he:P.underlying e=some (.int .u8))(hc:P.cellsOf e=1)
 (h:DataW.trod enc P w base spare held fuel t [v]=some x):∃a n cap,v=FB a n cap/\gT w a n cap:=by
 have⟨a,n,cap,l,Z,hl,h1,h2,h3⟩:=En (E:=λu z=>u=.int .u8 z/\0<=z/\z<=255) ht hc (λn u y Q=>by
  obtain⟨z,hz,_,K⟩:=af he Q;exact⟨z,by simpa using hz,Vu K⟩) h
 refine⟨a,n,cap,Z,⟨h1,h2,λk G=>?_⟩⟩;have⟨b,off,ha,hc⟩:=h3 k G;refine⟨b,off,ha,λk G=>?_⟩;have⟨u,h4,h5,h6⟩:=hc k G;exact⟨_,by rw[h4,h5],h6⟩
end
theorem Xr(h:LI w cb){cap:Nat}(Z:ID B6 w a n cap L)(hn:1<=n)(K:∀b off,a=some (IM b off)->b≠cb):
 Calls prog 52 #[ats (some (IM cb 0)),FB a n cap] w λe w'=>(∃x,x∈L/\e=atn (atr (bs x)))/\LI w' cb/\w.grownBy w' (some cb):=by
 have⟨y7,y8⟩:=Z.ath;refine Fn (fQ h (n:Int) O) Z K λH HL HN=>?_;go_in
 go_wp2_with rfl;refine H.mono ?_;rintro e w1 ⟨⟨x,rfl,B9,B0⟩,hc,hg⟩;obtain⟨k,rfl⟩:∃k:Nat,x=k:=⟨x.toNat,by omega⟩;have hk:k<n:=O;have IG:=SW k n;obtain⟨b,off,y,rfl,Q,_⟩:=HL.at hk;have G:=mh HL.o Q;have agp:w1.cell? (IM b (off+k))=some (atr (bs y)) :=
  (lJ (hg.block b (vM _ _ G) (λe=>HN.o b off rfl (iv e))) _).trans G
 refine Fn hc hg (MV Q) λHC HG HM=>?_;go_wp2;go_ret;exact⟨⟨y,HM,rfl⟩,HC,HG⟩
def US(w w':J)(cb:Nat)(e:Ending):Prop:=(∃u:List UInt8,e=atn (atr (bs u))/\Lp u<=60)/\LI w' cb/\w.grownBy w' (some cb)
theorem ji{X:ByteArray}(h:X.size<=60)(k:LI w' cb/\w.grownBy w' (some cb)):US w w' cb (atn (atr X)):=by
 obtain⟨u,rfl⟩:∃u,X=bs u:=⟨X.data.toList,by cases X;rfl⟩;exact⟨⟨u,rfl,by rwa [aX]at h⟩,k⟩
theorem ln(x:Int)(h0:-1000<=x)(h1:x<=1000):
 Calls prog 51 #[U x] w λe w'=>(∃t:ByteArray,e=atn (atr t)/\t.size<=25)/\D4 w w':=by
 by_cases hx:0<=x
 ·obtain⟨n,rfl⟩:∃n:Nat,x=n:=⟨x.toNat,by omega⟩;exact(pl n O).mono λe w' h=>⟨⟨_,h.1,by have:=mD (n:=n) O;rw[aX];omega⟩,h.2⟩
 obtain⟨n,rfl⟩:∃n:Nat,x=-(n:Int):=⟨(-x).toNat,by omega⟩;exact(pi n O O).mono λe w' h=>⟨⟨_,h.1,by have:=mD (n:=n) O;rw[aX,mg];omega⟩,h.2⟩
theorem mN(h:LI w cb)(L:List (List UInt8))(Q:Lp L=n)(h1:1<=n)(h2:n<=9)(hL:∀x∈L,Lp x<=20){K:Array atY}(G:K=(B6.all L).toArray:=by rfl):
 Calls prog 52 #[ats (some (IM cb 0)),GT w n n] (w.alloc (SH K 9)) λe w'=>(∃t:ByteArray,e=atn (atr t)/\t.size<=20)/\LI w' cb/\w.grownBy w' (some cb) :=
 (Xr (h.ext ZL) (ID.lit B6 9 w L n Q K G w rfl O) h1 (λb off e=>by
   simp only[Pi,gl,gi]at e;have:=h.lt;omega)).mono λe w' ⟨⟨x,hx,Z⟩,hc,hg⟩=>⟨⟨_,Z,by rw[aX];exact hL x hx⟩,hc,dK (gP _ ZL) hg⟩
def JQ(h:σ:=by
 rintro e w2 ⟨⟨y,rfl,JB,F7⟩,hc,hg⟩;have HL:=I (eN hc (dK HG.o hg));clear hc hg;go_wp2_with rfl;refine(ln y O O).mono ?_;rintro e w3 ⟨⟨t,rfl,ht⟩,hx⟩;replace HL:=I (eN (HL.1.ext hx) (dK HL.2 (gP _ hx)));have Gm:¬9223372036854775807<8+t.size:=by omega
 clear hx;go_wp2;go_ret;exact ji (by rw[fv];show 8+t.size<=60;omega) HL.o
 ):σ:=h
def L2(h:σ:=by
 rintro e w2 ⟨⟨t,rfl,ht⟩,hc,hg⟩;have HL:=I (eN hc (dK HG.o hg));clear hc hg;go_wp2;go_ret;exact ji O HL.o
 ):σ:=h
theorem EV(h:LI w cb):
 Calls prog 21 #[ats (some (IM cb 0))] w λe w'=>US w w' cb e:=by
 have H:=I (fQ h 10 O);go_in
 go_wp2_with rfl;refine H.mono ?_;rintro e w1 ⟨⟨x,rfl,B9,B0⟩,hc,hg⟩;have HC:=I hc;have HG:=I hg;have hx:x=0∨(x=1∨x=2)∨(x=3∨x=4)∨x=5∨(x=6∨x=7)∨x=8∨x=9:=O;rcases hx with rfl|h|h|rfl|h|rfl|rfl
 ·go_wp2_with rfl;refine(fQ HC.o 5 O).mono ?_;exact JQ
 ·rcases h with rfl|rfl
  all_goals
   go_wp2_with rfl;refine(mN HC.o [[97],[98],[97,98],[97,98,99],[97,99],[45],[101]] rfl FS FS FS).mono ?_;rintro e w2 ⟨⟨t,rfl,ht⟩,hc,hg⟩;have HL:=I (eN hc (dK HG.o hg));have K:=I (d6.lit w2 [3,6,0,-2,500,501] 3 FS);have Mm:=I (Af (HL.1.ext ZL) K.o FS (λb off e=>by
    simp only[Pi,gl,gi]at e;have:=HL.1.lt;omega))
   go_wp2_with rfl;refine Mm.mono ?_;rintro e w4 ⟨⟨q,hq,rfl⟩,hc,hg⟩;have G:=(by decide:∀q:Nat,q<6->-1000<=([3,6,0,-2,500,501]:o7)[q]?.getD 0/\([3,6,0,-2,500,501]:o7)[q]?.getD 0<=1000) q hq;have⟨z,hz⟩:=j7 (([3,6,0,-2,500,501]:o7)[q]?.getD 0);rw[<-hz]at G;rw[<-hz];replace HL:=I (eN hc (dK (dK HL.2 (gP _ ZL)) hg));clear hz;go_wp2_with rfl;refine PP (ln z G.1 G.2) λw5 u hu hx=>?_;replace HL:=I (eN (HL.1.ext hx) (dK HL.2 (gP _ hx)));have Gm:¬9223372036854775807<6+t.size:=O;have F0:¬9223372036854775807<6+t.size+1:=O;have PR:¬9223372036854775807<6+t.size+1+u.size:=O;go_wp2;go_ret;exact ji (by rw[fv,fv,fv];show 6+t.size+1+u.size<=60;omega) HL.o
 ·rcases h with rfl|rfl
  all_goals
   go_wp2_with rfl;refine(fQ HC.o 7 O).mono ?_;exact JQ
 ·go_wp2_with rfl;refine(mN HC.o [[50,32,50,32,50],[54],[49,47,50,32,49,49,47,50,32,48],[120],[51,32,51],[52,48,32,52,48,32,52,48,32,52,48]] rfl FS FS FS).mono ?_;rintro e w2 ⟨⟨t,rfl,ht⟩,hc,hg⟩;have HL:=I (eN hc (dK HG.o hg));have Gm:¬9223372036854775807<7+t.size:=by omega
  go_wp2;go_ret;exact ji (by rw[fv];show 7+t.size<=60;omega) HL.o
 ·rcases h with rfl|rfl
  all_goals
   go_wp2_with rfl;refine(mN HC.o [[115,104,97,112,108,101,121],[98,97,110,122,104,97,102],[108,101,97,115,116],[110,117,99,108,101,111,108,117,115],[99,111,114,101]] rfl FS FS FS).mono ?_;exact L2
 ·go_wp2_with rfl;refine(mN HC.o [[99,104,101,99,107],[119,111,114,115,116],[112,114,111,112,101,114,116,105,101,115],[115,104,111,119]] rfl FS FS FS).mono ?_;exact L2
 go_wp2_with rfl;refine(mN HC.o [[119,104,97,116],[],[112,108,97,121,101,114,115,32,120],[118,97,108,117,101,32,97],[112,97,121,111,102,102],[99,111,114,101,32,110,111,119]] rfl FS FS FS).mono ?_;exact L2
theorem BY{A:List (List UInt8)}(G:Lp A<=61)(h:∀x∈A,Lp x<=60):Lp (Lib.join A [10])<=4000:=by
 rw[xU (d:=32) A];have h1:=lj h;have h2:Lp A*(60+1)<=61*(60+1):=Nat.mul_le_mul_right _ G;omega
theorem A9.called{α:Type}{E:kf α}{t:TypeId}{l:List α}(h:A9 E t w base v l)(hg:w.grownBy w' (some cb))(hb:cb<base):A9 E t w' base v l :=
 h.keep λk G=>hg.block k (h.lt k G).2 (by intro e;have:=(h.lt k G).1;have:=iv e;omega)
theorem LI.aeU(h:LI w cb)(ho:A9 B6 9 w base v l)(hb:cb<base)(hg:w.grownBy w' v.ownBlock):LI w' cb:=by
 have hl:=h.lt;have G:∀k,k<=cb->w'.heap[k]?=w.heap[k]?:=λk G=>hg.block k O λe=>by have:=(ho.lt k e.symm).1;omega
 obtain⟨ba,bn,bc,i,x,h1,Q,h3,h4,h5⟩:=h;refine⟨ba,bn,bc,i,x,(G cb (m9 _)).trans h1,⟨Q.y7,Q.y8,λj K=>?_⟩,h3,h4,h5⟩;have⟨Z,off,e,hc⟩:=Q.cell j K;refine⟨Z,off,e,λj K=>?_⟩;have⟨y,hy,F7⟩:=hc j K;exact⟨y,(lJ (G Z (Nat.le_of_lt (h5 Z off e O))) _).trans hy,F7⟩
theorem tM{A:List (List UInt8)}{x:List UInt8}(h:∀y∈A,Lp y<=60)(hx:Lp x<=60):∀y∈A++[x],Lp y<=60:=λy K=>by
 rcases Pm.1 K with G|G
 ·exact h y G
 rw[Nu]at G;subst G;exact hx
theorem rI{cap:Nat}(h:gT w a n cap)(hn:n<=1048576):
 Calls prog 6 #[FB a n cap] w λe w'=>(∃t:List UInt8,e=atn (atr (bs t))/\Lp t<=1048576)/\D4 w w':=by
 have HN:=I (O6 h hn);go_in
 go_wp2_with rfl;refine HN.mono ?_;rintro e w1 ⟨⟨cb,rfl,RD,hc⟩,hx⟩;have K6:=hc.lt;refine Op (A9.Ft B6 9 w1 w1 _ rfl (m9 _)) (hc.ext (D4.alloc w1 (SH #[] 9))) (hx.trans (D4.alloc w1 (SH #[] 9))) hx.size λHA0 RU X2 HG=>?_;go_upto_region 3 with rfl;generalize w1.alloc (SH #[] 9)=w2 at HA0 RU X2⊢;generalize w1.heap.size=b1 at HA0 HG K6⊢;have HB:=I (fQ RU.o 8 O);go_wp2_with rfl;refine HB.mono ?_;rintro e w3 ⟨⟨x,rfl,B9,B0⟩,hc,hg⟩;refine Fn hc (aj X2.o hg (λj G=>by cases G;exact RD)) (HA0.called hg K6) λHC3 X3 HA3=>?_;have HO:=I (Xs HC3.o 16 O);obtain⟨n0,QN⟩:∃n0:Nat,(n0:Int)=1+x:=⟨(1+x).toNat,by omega⟩;have hn8:n0<=61:=O
 have PF:=qj (1+x) (n0:Int);go_wp2_with rfl;refine HO.mono ?_;rintro e w4 ⟨⟨o,rfl⟩,hc,hg⟩;refine Fn hc (aj X3.o hg (λj G=>by cases G;exact RD)) (HA3.called hg K6) λV7 X4 HA4=>?_;go_upto_if 14 with rfl
 go_cut [5] (λnn wx=>∃N:Nat,nn=U N/\e9 (N<=61)/\e9 (LI wx cb)/\e9 (A9 B6 9 wx b1 (GT b1 0 0) [])/\e9 (D4 w wx))
 case first =>
  cases o with
  | false =>
    go_wp2;go_meet;exact⟨n0,by go_num,I hn8,V7,HA4,X4⟩
  | true =>
    have HB:=I (fQ V7.o 3 O);go_wp2_with rfl;refine HB.mono ?_;rintro e w5 ⟨⟨y,rfl,JB,F7⟩,hc,hg⟩;refine Fn hc (aj X4.o hg (λj G=>by cases G;exact RD)) (HA4.called hg K6) λHC5 X5 K=>?_;obtain⟨n5,LU⟩:∃n5:Nat,(n5:Int)=59+y:=⟨(59+y).toNat,by omega⟩;have hn61:n5<=61:=O;have Gz:=qj (59+y) (n5:Int);go_wp2;go_meet;exact⟨n5,by go_num,I hn61,HC5,K,X5⟩
 obtain⟨N,rfl,L9,HC5,K,X5⟩:=hcut;go_wp2
 go_loopg [4,6] N (λgk ll ii wr=>∃(k:Nat) (a4:o6) (n4 c4:Nat) (A:List (List UInt8)),e9 (gk+k=N)/\ll=FB a4 n4 c4/\ii=U k/\e9 (Lp A=k)/\e9 (∀x∈A,Lp x<=60)/\e9 (A9 B6 9 wr b1 (FB a4 n4 c4) A)/\e9 (LI wr cb)/\e9 (D4 w wr)/\e9 (b1<=wr.heap.size))
 ·exact⟨0,_,_,_,[],I O,rfl,rfl,I rfl,I (λx hx=>by cases hx),K,HC5,X5,I (l8 ((K.lt b1 rfl).2))⟩
 obtain⟨k,a4,n4,c4,A,HK,rfl,rfl,WH,RN,HA,HC,HX,HSZ⟩:=hrel;have Ry:=aE k;by_cases hlt:k<N
 ·have IG:=SW k N;have Wi:IntKind.i64.wrap ((k:Int)+1)=((k+1:Nat):Int):=by rw[j0];have:=L9.o;omega
  have Z:Lp A+1<=1099511627776:=by have:=WH.o;have:=L9.o;omega
  by_cases h20:20<N
  ·have h20i:=SW 20 N;have Hi:=I (ID.lit B6 9 wr [[115,104,111,119]] 1 rfl #[atr ⟨#[115,104,111,119]⟩] rfl wr rfl O);go_wp2_with (at_builtin;refine dt B6 Tryz.Gb rfl Jw FS rfl _ _ rfl b1 (FB a4 n4 c4) A rfl (HA.ext ZL) _ 1 1 [[115,104,111,119]] rfl Hi.o Z (by have:=HSZ.o;simp;omega) ?_;intro v7 w7 ho hg r';have HC7:=I ((HC.ext ZL).aeU (HA.ext ZL) K6 hg);have RL:=I (aj (HX.trans ZL) hg (λj G=>bR HG.o (HA.lt j G).1));have ag':e9 (b1<=w7.heap.size):=bR HSZ.o (bR j9 hg.size);obtain⟨a7,n7,c7,rfl,Ma⟩:=ho.var;have HA7:=I ho)
   refine dk ?_;exact⟨k+1,_,_,_,_,I (l8 HK.o),rfl,by go_num,I (by rw[ar,WH.o];rfl),I (tM RN.o FS),HA7,HC7,RL,ag'⟩
  have h20i:¬(20:Int)<(N:Int):=O;have Lw:=I (EV HC);go_wp2_with rfl;refine Lw.mono ?_;rintro e w5 ⟨⟨u,rfl,hu⟩,hc,hg⟩;refine kv hu hc (aj HX.o hg (λj G=>by cases G;exact RD)) (HA.called hg K6) (bR HSZ.o hg.size) λHU WC Hg V8 HSZ6=>?_;have⟨uu,huu⟩:=j7 (bs u);have Hi:=I (ID.lit B6 9 w5 [u] 1 rfl #[atr (bs u)] rfl w5 rfl O);rw[<-huu]at Hi⊢;clear huu;go_wp2_with (at_builtin;refine dt B6 Tryz.Gb rfl Jw FS rfl _ _ rfl b1 (FB a4 n4 c4) A rfl (V8.ext ZL) _ 1 1 [u] rfl Hi.o Z (by have:=HSZ6.o;simp;omega) ?_;intro v7 w7 ho hg r';have HC7:=I ((WC.ext ZL).aeU (V8.ext ZL) K6 hg);have RL:=I (aj (Hg.trans ZL) hg (λj G=>bR HG.o (V8.lt j G).1));have ag':e9 (b1<=w7.heap.size):=bR HSZ6.o (bR j9 hg.size);obtain⟨a7,n7,c7,rfl,Ma⟩:=ho.var;have HA7:=I ho)
  refine dk ?_;exact⟨k+1,_,_,_,_,I (l8 HK.o),rfl,by go_num,I (by rw[ar,WH.o];rfl),I (tM RN.o HU),HA7,HC7,RL,ag'⟩
 have E':k=N:=l8 HK.o;have IG:¬(k:Int)<(N:Int):=O;have Hn:=BY (A:=A) (by have:=WH.o;have:=L9.o;omega) RN.o;have HJ:=I (uG HA.JG [10] (by have:=HA.JG.hlen;have:=WH.o;have:=L9.o;omega) (by simp only[mg,D1];omega));have⟨jt,HJT⟩:=Ok (bs (Lib.join A [10]));rw[<-HJT.o]at HJ;have SX:=I Hn;go_wp2_with rfl;refine i6 HJ λw6 hx=>?_;have HXF:=I (HX.trans hx);go_wp2;go_ret;exact⟨⟨Lib.join A [10],cu HJT.o,by have:=SX.o;omega⟩,HXF⟩
theorem uC(L:List (List UInt8)):∀k,(Hz L k).2.length=k
 | 0=>rfl
 | k+1=>by show((Hz L k).2++[_]).length=_;rw[ar,uC L k];rfl
theorem Xx{L:List (List UInt8)}{k:Nat}:∀{n:Nat},k<n->(Hz L n).2[k]?=some (cJ (Hz L k).1 (L[k]?.getD [])).2
 | 0,h=>absurd h (Nat.not_lt_zero _)
 | n+1,h=>by
   show((Hz L n).2++[_])[k]?=_;have G:=uC L n;by_cases e:k=n
   ·subst e;rw[J1 O,G,R8];rfl
   rw[nP O];exact Xx O
theorem TE{k:Nat}{x:List UInt8}(h:L[k]?=some x):L.take (k+1)=L.take k++[x]:=by rw[MH,h];rfl
theorem zX{a':o6}{n' cap G:Nat}{L':List (List UInt8)}(h:ID B6 w a n cap L)(h':ID B6 w a' n' G L'):
 f9 9 #[.slice a n cap,.slice a' n' G] w (.bool (decide (L=L'))):=by
 have hn:=h.y7;have hm:=h.y8;have hn':=h'.y7;have hm':=h'.y8;have HL:=I h.hlen;have M4:=I h'.hlen;have HS:=I h;have HS':=I h';clear h h';by_cases hne:n=n'
 ·subst hne;(try unfold f9);go_in
  go_wp2_with rfl
  go_loopg [5] n (λgk ii wr=>∃k:Nat,e9 (gk+k=n)/\ii=.int .i64 (k:Int)/\e9 (L.take k=L'.take k)/\e9 (D4 w wr))
  case atStart=>exact FC
  obtain⟨k,HK,rfl,HT,HX⟩:=hrel;have Ry:=aE k;by_cases hlt:k<n
  ·obtain⟨b,o,x,rfl,hx,hc⟩:=(HS.o.ext HX.o).at hlt;obtain⟨b',o',x',rfl,K,hc'⟩:=(HS'.o.ext HX.o).at hlt;have q0:wr.cell? ⟨b,o+k,none⟩=some (.string (bs x)):=by simpa[B6]using hc 0 _ rfl
   have q1:wr.cell? ⟨b',o'+k,none⟩=some (.string (bs x')):=by simpa[B6]using hc' 0 _ rfl
   have hq:=tN x x';obtain⟨B,hB⟩:=j7 (decide (x=x'));rw[<-hB]at hq;obtain⟨u,hu⟩:=j7 (bs x);obtain⟨u',Qm⟩:=j7 (bs x');rw[<-hu]at q0 hq;rw[<-Qm]at q1 hq;have A6:=I hx;have C7:=I K;have Hy:=I hB;have IG:=SW k n;have OY:=I (λ(w':J) (Z:D4 wr w')=>(⟨Z.o9 q0,Z.o9 q1⟩:w'.cell? ⟨b,o+k,none⟩=some (.string u)/\w'.cell? ⟨b',o'+k,none⟩=some (.string u')));have Z:=D4.drew wr;clear hc hc' hx K hB hu Qm q0 q1;go_upto_region 6 with rfl;refine kp OY Z λr9=>?_
   refine ks ⟨?_⟩;refine Mp ⟨?_⟩;refine tk 7 ?_;refine tk 8 ?_;refine ST k8 ?_ _;have HXD:=I (HX.o.trans Z);cases B with
   | true =>
     go_wp2_with rfl;refine dk ?_;exact⟨k+1,I (l8 HK.o),by go_num,I (by rw[TE A6.o,TE C7.o,HT.o,nR Hy.o.symm]),HXD⟩
   | false =>
     go_wp2_with rfl;go_ret;refine⟨ag (Eq.symm (RK λe=>?_)),HXD.o⟩;have h1:=A6.o;rw[e,C7.o]at h1;exact V5 Hy.o.symm (iv h1).symm
  have E':k=n:=l8 HK.o;have HE:=I (show L=L' by
   have h1:=HT.o;rw[aP S4,aP (by rw[M4.o];omega)]at h1
   exact h1)
  have IG:¬(k:Int)<(n:Int):=O;clear E';go_wp2_with rfl;go_ret;exact⟨ag (bl HE.o).symm,HX.o⟩
 have UO:((n:Int) != (n':Int))=true:=t8;have HN:=I (show L≠L' from λe=>hne K4);clear hne;(try unfold f9);go_in
 go_wp2_with rfl;go_ret;exact⟨ag (RK HN.o).symm,D4.refl _⟩
theorem zW {w: J}{a: Option Addr}{n cap: Nat}(h : gT w a n cap)(htab : tIw w)(hml : nf w) :
 f9 3 #[FB a n cap] w (ato true):=by
 have⟨y7,y8⟩:=h.ath;refine Fn h htab hml λH HTB HML=>?_;clear h htab hml;by_cases hbig:1048576<n
 ·unfold f9;go_in
  go_wp2_with rfl;go_in;go_wp2;go_ret;exact⟨rfl,So⟩
 have hb:n<=1048576:=O;unfold f9;go_in
 go_wp2_with rfl;go_in;go_wp2_with rfl;refine hF (rI H.o hb) λw1 t ht X1=>?_;clear hbig hb y7 y8;refine Fn (λ(w':J)=>yS (w:=w') t ht) (λ(w':J) (X1:D4 w w')=>xL (dP HTB.o X1) (HML.ext X1) t ht) (λ(w':J)=>im (w:=w') t 10 O) λHS HI Gc=>?_;have NK:∀x∈E0 10 t,Lp x<=1048576:=λx hx=>bR (lu hx) ht
 have UM:=show Si t=if(E0 10 t).length<=60 then(Hz (E0 10 t) (Lp (E0 10 t))).2 else []from rfl
 have⟨B,hB⟩:=j7 (decide (Lp (E0 10 t)<=60));have⟨R,hR⟩:=j7 (Si t);have⟨L,hL⟩:=j7 (E0 10 t);simp only[<-hB,<-hR]at HS HI;rw[<-hR]at UM;simp only[<-hL]at Gc NK UM hB;have⟨tt,F2⟩:=j7 (bs t);simp only[<-F2]at HS HI Gc;rw[<-F2];refine Op hB UM (pg NK) NK λHy K8 E6 OW=>?_;clear hB hR hL F2 ht NK UM;go_wp2_with rfl;refine hF (HI _ X1) λw2 v1 ho hx=>?_;obtain⟨a1,n1,c1,rfl,HN1⟩:=ho.var;have X2:=I (X1.trans hx);have S1:=I ho.JG;clear ho;go_wp2_with rfl;refine hF (HS _) λw3 v2 ho hx=>?_;obtain⟨a2,n2,c2,rfl,Jb⟩:=ho.var;have X3:=I (X2.trans hx);have S3:=I (S1.ext hx);have HE:=I (zX (L:=R) (L':=R) S3.o ho.JG);rw[bl rfl]at HE;clear ho;have GY:(B != B)=false:=j9;go_wp2_with rfl;refine qc HE λw4 hx=>?_;have X4:=I (X3.trans hx);have S4:=I (S3.ext hx);clear Jb;by_cases hn:Lp L<=60
 ·have hBT:B=true:=Hy.trans (bl hn);subst hBT;have HZ:=I (show R=(Hz L (Lp L)).2 by rw[K8.o,i7 hn]);have La:=I (show Lp L=n1 by rw[<-HN1.o,HZ.o,uC]);have hn60:n1<=60:=by rw[<-La.o];exact hn
  clear hn;have FG:e9 (C6 (w4.alloc (SH #[U 0,d9,d9] 34)) w4 (U 0) d9 (d9)):=LE rfl;have X5:=I (D4.alloc w4 (SH #[U 0,d9,d9] 34));go_upto_region 11 with rfl;generalize w4.alloc (SH #[U 0,d9,d9] 34)=w5 at FG X5⊢;have⟨r,hr⟩:=j7 w4.heap.size;have HRG:=I (show w4.heap.size<=r by rw[hr];exact m9 _);rw[<-hr]at FG⊢;clear hr;go_wp2_with rfl;refine yf (Gc _) λw6 v ho hx=>?_;obtain⟨a6,n6,c6,rfl,Jy⟩:=ho.var;obtain rfl:n6=n1:=by rw[<-Jy.o,La.o]
  have⟨hcap6,hmax6⟩:=ho.JG.ath;refine Fn (A9.mono ho X5.size) (hx.blk FG) (X5.trans hx) λQf Ke X6=>?_;clear hx ho X5;go_wp2
  go_loopg [10] n6 (λgk kk wr=>∃(k:Nat) (p:Int) (V:o7) (X:o3) (a:o6) (n cap:Nat) (b:o6) (m dap:Nat),e9 (gk+k=n6)/\kk=U k/\e9 ((Hz L k).1=⟨p,V,X⟩)/\e9 (C6 wr r (U p) (FB a n cap) (FB b m dap))/\e9 (aG wr w4 a n cap b m dap V X)/\e9 (A9 B6 9 wr w4 (FB a6 n6 c6) L)/\e9 (D4 w4 wr))
  ·exact⟨0,0,[],[],_,_,_,_,_,_,I O,rfl,I rfl,Ke,I ⟨y4,og⟩,Qf,X6⟩
  obtain⟨k,p,V,X,a,n,cap,b,m,dap,HK,rfl,GN,HB,HO,Lw,HX⟩:=hrel;have Ry:=aE k;by_cases hlt:k<n6
  ·obtain⟨lb,lo,x0,rfl,Mk,Fo⟩:=Lw.JG.at hlt;obtain⟨ob,oo,y0,rfl,JB,FQ⟩:=S4.at hlt;have q0:wr.cell? (IM lb (lo+k))=some (atr (bs x0)):=by simpa[B6]using Fo 0 _ rfl
   have q1:w4.cell? (IM ob (oo+k))=some (atr (bs y0)):=by simpa[B6]using FQ 0 _ rfl
   have⟨Gm,F0⟩:=(E6 k).1;rw[GN.o]at Gm F0;have Ot:=I (λ(w':J) (hx:D4 wr w')=>ix (w:=w') (p:=p) (HO.v.ints.ext hx) (HO.x.rats.ext hx) UJ mm (dP HTB.o ((X4.trans HX).trans hx)) (HML.ext ((X4.trans HX).trans hx)) x0 (OW x0 (MV Mk)));have NX:=I (show(Hz L (k+1)).1=(cJ ⟨p,V,X⟩ x0).1 by
    show(cJ (Hz L k).1 (L[k]?.getD [])).1=_;rw[GN.o,Mk];rfl)
   have hrt:R[k]?=some (cJ ⟨p,V,X⟩ x0).2:=by rw[HZ.o,Xx (by rw[La.o];exact hlt),GN.o,Mk];rfl
   obtain⟨⟨⟨p5,V5,X5⟩,t5⟩,hR5⟩:∃Q,Q=cJ ⟨p,V,X⟩ x0:=⟨_,rfl⟩;simp only[<-hR5]at Ot;rw[<-hR5]at NX hrt;obtain rfl:y0=t5:=iv (JB.symm.trans hrt);have⟨u0,Li⟩:=j7 (bs x0);rw[<-Li]at q0;simp only[<-Li]at Ot;have⟨t0,JQ⟩:=j7 (bs y0);rw[<-JQ]at q1;have SN:=I JQ;have⟨c0,c1,c2,cf⟩:=C6.c HB.o;have IG:=SW k n6;have hkge:¬(n6:Int)<=(k:Int):=O;have QM:(t0.toList == t0.toList)=true:=j9;have HQ1:=I (λ(w':J) (hk:D4 w4 w')=>hk.o9 q1);have Us:=I (λ(w':J) (hk:D4 wr w')=>(⟨hk.o9 q0,hk.o9 c0,hk.o9 c1,hk.o9 c2⟩:w'.cell? (IM lb (lo+k))=some (atr u0)/\w'.cell? (IM r 0)=some (U p)/\w'.cell? (IM r 1)=some (FB a n cap)/\w'.cell? (IM r 2)=some (FB b m dap)));have hk:=D4.drew wr;clear Fo FQ Mk JB hrt hR5 Li JQ Gm F0 q0 q1 c0 c1 c2 cf hlt;go_upto_region 16 with rfl;refine cj (M:=[9]) (S:=λw'=>w'.cell? (IM lb (lo+k))=some (atr u0)/\w'.cell? (IM r 0)=some (U p)/\w'.cell? (IM r 1)=some (FB a n cap)/\w'.cell? (IM r 2)=some (FB b m dap)) k8 ?_;have r9:=Us.o _ hk;refine ll 0 ?_;refine lp 1 ?_;refine lp 2 ?_;refine lp 3 ?_;refine ll 4 ?_;refine Im 5 λK hK=>?_
   go_simp;go_at_call 11;refine(Ot _ hk).mono ?_;rintro e w5 ⟨⟨a5,n5,k5,b5,m5,d5,rfl,ho⟩,hx⟩;rw[<-SN.o];have Fj:=I (ho.mono (HX.trans hk).size);have hk:=hk.trans hx;refine Fn (hk.blk HB) (Lw.ext hk) (HX.trans hk) λFG HLN5 Hh=>?_;clear ho hx;go_wp2_with rfl;refine KL (Us _ hk) λr9=>?_
   refine lp 6 ?_;refine lp 7 ?_;refine lp 8 ?_;have⟨d0,d1,d2,df⟩:=C6.c FG.o;refine Ql 9 ?_;refine kq (i:=10) (oi:=?_) (v:=?_) ?_ ?_ ?_ ?_ ?_ ?_ ?_ ?_ ?_;rotate_left 2
   ·simp only[gA,gB,gC];rfl
   ·kernel_rfl
   ·kernel_rfl
   ·kernel_rfl
   ·kernel_rfl
   ·exact λ_ _ _ h=>h
   ·exact cA
   ·kernel_rfl
   try simp only[Act.put,sA,sB,sC]
   refine cU k8 ?_ _;have⟨w8,PF⟩:=j7 (((w5.setCell (IM r 0) (U p5)).setCell (IM r 1) (FB a5 n5 k5)).setCell (IM r 2) (FB b5 m5 d5));refine Op (show C6 w8 r (U p5) (FB a5 n5 k5) (FB b5 m5 d5)by rw[PF];exact C6.put FG.o _ _ _) (show aG w8 w4 a5 n5 k5 b5 m5 d5 V5 X5 by rw[PF];exact aG.put Fj.o FG.o _ _ _) (show A9 B6 9 w8 w4 (FB (some (IM lb lo)) n6 c6) L by rw[PF];exact A9.Gx HLN5.o FG.o _ _ _) (show D4 w4 w8 by rw[PF];exact Hh.Gx HRG.o _ _ _) λPw Nt KV MX=>?_;have q8:=HQ1.o _ MX.o;rw[<-PF];clear PF r9 d0 d1 d2 df hk;go_wp2_with rfl;refine dk ?_;exact⟨k+1,_,_,_,_,_,_,_,_,_,I (l8 HK.o),by go_num,NX,Pw,Nt,KV,MX⟩
  have E':k=n6:=l8 HK.o;have IG:¬(k:Int)<(n6:Int):=O;have XF:=I (X4.trans HX);clear E';go_wp2;go_ret;exact⟨by simp,XF⟩
 have hBF:B=false:=Hy.trans (RK hn);subst hBF;obtain rfl:n1=0:=by rw[<-HN1.o,K8.o,f8 hn];rfl
 clear hn;go_wp2;go_ret;exact⟨by simp,X4⟩
