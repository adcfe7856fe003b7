import Derived.Test.YtooiaklfmodcbaaGreatDoorRtAllG30
import Derived.Shelf.SlSortCmp.NoneTotal
set_option linter.all false
set_option maxHeartbeats 6000000
set_option maxRecDepth 100000
namespace Go.Proofs.YtooiaklfmodcbaaGreatDoor
open Ending renaming returned->ar
open List renaming length->JL
open Obj renaming cells->QD
open Value renaming slice->GI,bool->bl,string->aE,pointer->aP
open Go.Proofs.Tryz Go.RowKit Go.Shelf
abbrev R8:=@Sort.size_flatK
variable{w:J}{a b:l9}{n m EM:Nat}{X:l7}{V:o3}
theorem ui{cap:Nat}(h:i6 w a n cap X)(s:Nat)(hs:s<32):
 f8 165 #[GI a n cap,.int .i64 (s:Int)] w (IN ((cv X s).getD (0,0),(cv X s).isSome)):=by
 have HL:=I h.hlen;have r8:=h.r8;have r9:=h.r9;have B8:=C7.alloc w (QD #[.int .i64 0,.int .i64 0] 56);refine t8 (h.ext B8) B8 (ai w (QD #[.int .i64 0,.int .i64 0] 56) _ rfl) λHI A8 DO=>?_;have D7:A4 (s:Int) 0 31=true:=by unfold A4;simp;omega
 clear h B8;(try unfold f8);go_in
 go_wp2_with fail;refine pk.mono ?_;rw[D7];rintro e w0 ⟨rfl,rfl⟩;go_wp2_with fail;refine IR (cO 0 _) λw1 A'=>?_;have A0:=I A';have hs31:¬((s:Int) > 31):=j0;have Ks:¬((s:Int)<0):=j0;clear A';go_wp2_with fail;refine E9 (py s hs _) λw2 v2 H C4=>?_;obtain⟨am,nm,cm,rfl,E⟩:=H.var;refine t8 H ((ah.new (C7.refl w1) 0 1).grow C4) E.out λM6 Ko Yr=>?_;have Ww:=H.ints.r8;have Wv:=H.ints.r9;clear H C4 E;have⟨mem,RQ⟩:=e9 (Ix (s:Int) 5);have S0:=I (λi h=>tw (s:Int) i h);rw[<-RQ]at M6 Yr S0;have OZ:=I (show cv X s=GZ X mem (0,1)by unfold cv;rw[RQ]);clear RQ;have GA:=I (λ(w':J) (hx:C7 w1 w')=>(hx.block _ rk).trans ((A0.block _ (In DO)).trans DO));have Ha:=I (A8.trans A0);have Wi:w.heap.size<w1.heap.size:=by have:=In DO.o;have:=A0.size;omega
 go_wp2
 go_loopg [19] nm (λgk ii wr=>∃(k:Nat) (p q:Int),b9 (gk+k=nm)/\ii=.int .i64 (k:Int)/\b9 (ah w1 wr w1 p q)/\b9 (GZ X (mem.take k) (0,1)=some (p,q))/\b9 (r' wr w1 (GI am nm cm) mem))
 ·exact Jv
 obtain⟨k,p,q,HK,rfl,HB,HT,HM⟩:=hrel;have G5:=HB.c0;have E6:=HB.c1;have PJ:=HB.lt;have adi:=HB.ext.size;by_cases G:k<nm
 ·have Fe:k<JL mem:=by rw[Yr.o];exact G
  obtain⟨j,hj,hj5,_,_⟩:=S0.o k Fe;have⟨lb,VC,K,hlc⟩:=HM.ints.at G;subst K;rw[hj]at hlc;by_cases Ii:j<n
  ·have⟨xb,Nu,x,y,Tf,Eo,RD,Sx⟩:=(HI.ext (A0.trans HB.ext)).at Ii;subst Tf;have WB:¬(JL X:Int)<=(j:Int):=by rw[HL.o];omega
   obtain⟨p2,q2,ok,Z⟩:∃p2 q2 ok,Ev (p,q) (x,y)=((p2,q2),ok):=⟨_,_,_,rfl⟩;have EJ:=I Z;have F4:=I (show GZ X [mem[k]?.getD 0] (p,q)=if ok=true then some (p2,q2) else none by
    rw[hj];simp only[GZ];rw[f7 WB,gg,Eo,Z])
   have FP:=I Fe;clear hj Z Eo Fe WB;go_upto_region 9 with fail
   have qq0:=@kv;have qq1:=@Rt;exact Oy
  have qq0:=@Rt;exact dn
 have DV:nm=k:=k8 HK.o;subst DV;have HY:=I (show cv X s=some (p,q)by
  rw[OZ.o];have h:=HT.o;rwa [bR (by rw[Yr.o];exact i8 _)]at h)
 have qq0:=@Rt;exact JU
theorem rt{p:Int}{cap:Nat}(h:d9 w a n cap V)(hx:i6 w b m EM X):
 f8 87 #[FS p a n cap,GI b m EM] w (bl (EG p V X)):=by
 have qq0:=@bV;have qq1:=@mi;have qq2:=@ui;have qq3:=@iE;have qq4:=@cO;exact OY
def KR(p:Int)(V:o3)(X:l7)(lo c:Nat):Option (l7):=if EG p V X=true then L6 V X lo c else none
theorem AM{p:Int}{cap:Nat}(h:d9 w a n cap V)(hx:i6 w b m EM X)(hg:ak p V=true){s:Nat}(hs:s<n):
 f8 212 #[FS p a n cap,GI b m EM,.int .i64 (s:Int)] w (IN ((FK V X s).getD (0,0),(FK V X s).isSome)):=by
 have⟨W,hW⟩:=e9 ((w.alloc (QD #[.int .i64 p,GI a n cap] 31)).alloc (QD #[.int .i64 0,.int .i64 0] 56));have DW:=I (show W.heap.size=w.heap.size+2 by rw[hW];simp);have hX:C7 w W:=by rw[hW];exact WU.trans WU
 refine z6 (show W.heap[w.heap.size+1]?=some (QD #[.int .i64 0,.int .i64 0] 56 (0,0))by rw[hW];exact IO j7) (show W.cell? ⟨w,0,none⟩=some (.int .i64 p)by rw[hW];exact C7.o6 WU j7) (show W.cell? ⟨w,1,none⟩=some (GI a n cap)by rw[hW];exact C7.o6 WU j7) (h.ext hX) (hx.ext hX) hX λDO I9 Jt HI HR HX=>?_;have HV:=I (bV (p:=p) HI);rw[hg,hW]at HV;have HL:=I h.hlen;obtain⟨q,rfl,Hh,JF,QE,_,Mx⟩:=ap hg;have hc:=bp q JF;have GQ:n<=32:=k8 HL.o;have IG:=I (λi=>dp Mx i);have r8:=h.r8;have r9:=h.r9;have D7:A4 (s:Int) 0 ((n:Int)-1)=true:=by unfold A4;simp;omega
 clear h hx hX hg QE Mx;(try unfold f8);go_in
 go_wp2_with fail;refine HV.mono ?_;rw[<-hW];rintro e w1 ⟨rfl,A'⟩;have X1:=I A';have b0:=A'.o6 I9.o;have b1:=A'.o6 Jt.o;clear A' hW;go_wp2_with fail;refine pk.mono ?_;rw[D7];rintro e w2 ⟨rfl,rfl⟩;clear D7;go_wp2_with fail;refine(ui (HR.ext X1) s j0).mono ?_;obtain⟨r1,Z,one,hr⟩:∃r1 Z one,((cv X s).getD (0,0),(cv X s).isSome)=(((r1,Z):o4),one):=⟨_,_,_,rfl⟩;rw[hr];have R9:=I hr;rintro e w3 ⟨rfl,B5⟩;have⟨G,FY⟩:=e9 (w3.alloc (QD #[.int .i64 r1,.int .i64 Z] 56));have DN:C7 w3 G:=by rw[FY];exact WU
 have X4:=I ((X1.trans B5).trans DN);have c0:=(B5.trans DN).o6 b0;have c1:=(B5.trans DN).o6 b1;have d0:G.cell? ⟨w3,0,none⟩=some (.int .i64 r1):=by rw[FY];simp
 have d1:G.cell? ⟨w3,1,none⟩=some (.int .i64 Z):=by rw[FY];simp
 obtain⟨vb,vo,rfl,MJ⟩:=(HI.ext X4).at hs;have⟨v,hv⟩:=e9 (V[s]?.getD 0);rw[<-hv]at MJ;obtain⟨p2,q2,ok,D4⟩:∃p2 q2 ok,D9 (v,1) (r1,Z)=((p2,q2),ok):=⟨_,_,_,rfl⟩;have EJ:=I D4;have FH:=I hv;clear hr B5 DN b0 b1 hv D4;go_upto_region 4 with fail;rw[<-FY];clear FY;have hr:=bO ((X4.block _ (k8 DW.o)).trans DO);obtain⟨Eb,Eh,Ip⟩:=hr;have XF:=I (HX.trans X4);cases one
 ·have HN:=I (show FK V X s=none by
   have:=R9.o;simp only[wb]at this;unfold FK;cases H:cv X s with
   | none=>rfl
   | some r=>rw[H]at this;simp at this)
  have qq0:=@results212;exact Wl
 have HN:=I (show FK V X s=if ok=true then some (p2,q2) else none by
  have:=R9.o;simp only[wb]at this;unfold FK;cases H:cv X s with
  | none=>rw[H]at this;simp at this
  | some r =>
    rw[H]at this;simp only[Nm]at this;rw[this.1];show NR (V[s]?.getD 0) (r1,Z)=_;unfold NR;rw[<-FH.o,EJ.o])
 have HZ:=I (show ok=false->p2=0/\q2=0 by
  intro DL;have h1:=EJ.o;have h2:=oz (a:=(v,1)) (b:=(r1,Z)) (by rw[h1];exact DL);rw[h1]at h2;simp only[wb]at h2;exact h2)
 have E:=C7.drew G;have o8:=I λw' (h:C7 G w')=>TX (h.o6 c1) (TX (h.o6 MJ) (TX (h.o6 d0) (TX (h.o6 d1) h)));clear Eb Eh Ip;go_wp2_with fail;refine cD (M:=[10]) (S:=λw'=>w'.cell? ⟨w,1,none⟩=some (GI (some ⟨vb,vo,none⟩) n cap)/\w'.cell? ⟨vb,vo+s,none⟩=some (.int .i64 v)/\w'.cell? ⟨w3,0,none⟩=some (.int .i64 r1)/\w'.cell? ⟨w3,1,none⟩=some (.int .i64 Z)/\C7 G w') j8 ?_;have o9:=o8.o _ E;have⟨wd,hwd⟩:=e9 G.drew;rw[<-hwd]at E o9;rw[<-hwd];clear hwd;refine oj ⟨?_⟩;refine ll 4 ?_;refine ll 6 ?_;refine Gp 5 λK hK=>?_;go_simp;go_at_call 131;refine IR (cO _ _) λw5 Ey=>?_;have E:C7 G w5:=E.trans Ey;clear Ey;go_wp2_with fail;refine KL (o8 _ E) λo9=>?_
 refine Gp 7 λK hK=>?_;go_simp;go_at_call 207;refine(ml _ _ _ _ _).mono ?_;rw[EJ.o];rintro e w6 ⟨rfl,Hg⟩;have E:C7 G w6:=E.trans Hg;clear Hg;have hr6:=bO (((X4.trans E).block _ (k8 DW.o)).trans DO);obtain⟨Eb,Eh,Ip⟩:=hr6;go_wp2_with fail;refine KL (o8 _ E) λo9=>?_
 refine lp 8 ?_;refine lp 9 ?_;refine OJ 10 ?_;refine mt (i:=11) (oi:=?_) (v:=?_) ?_ ?_ ?_ ?_ ?_ ?_ ?_ ?_ ?_;rotate_left 2
 ·simp only[gA,gB,gC];rfl
 ·kernel_rfl
 ·kernel_rfl
 ·kernel_rfl
 ·kernel_rfl
 ·exact λ_ _ _ h=>h
 ·exact Rw
 ·kernel_rfl
 try simp only[Act.put,sA,sB,sC]
 refine cQ j8 ?_ _;have XG:=I (HX.trans (X4.trans E));go_wp2;refine Fn (by simp[results,results212,go_sem,Eb,Eh]<;>rfl) rfl ⟨?_,(XG.store 0 j0 _).store 1 j0 _⟩;rw[HN.o];cases ok
 ·have⟨z1,z2⟩:=HZ.o rfl;rw[z1,z2];rfl
 rfl
theorem iF{p:Int}{cap:Nat}(h:d9 w a n cap V)(hx:i6 w b m EM X)(lo c:Nat)(hi:Int)(hh:ak p V=true->hi+1=(lo:Int)+c/\lo+c<=n):
 Calls prog 140 #[FS p a n cap,GI b m EM,U lo,U hi] w λe w'=>(∃v,e=ar (.tuple #[v,bl (KR p V X lo c).isSome])/\WV w' w v ((KR p V X lo c).getD []))/\C7 w w':=by
 have HX:=I (C7.alloc w (QD #[U p,GI a n cap] 31));refine t8 (h.ext HX) (hx.ext HX) h.hlen λHI HR HL=>?_;have⟨r8,r9⟩:=h.aq9;have K:=I (rt (p:=p) HI.o HR);have k0:(w.alloc (QD #[U p,GI a n cap] 31)).cell? (O w 0)=some (U p):=j7;have k1:(w.alloc (QD #[U p,GI a n cap] 31)).cell? (O w 1)=some (GI a n cap):=j7;have⟨W,H⟩:=e9 (w.alloc (QD #[U p,GI a n cap] 31));rw[<-H]at HX HI HR K k0 k1;have DW:=I (show W.heap.size=w.heap.size+1 by rw[H];simp);have HH:=I hh;clear h hx hh;cases E:EG p V X
 ·have HN:=I (show KR p V X lo c=none by unfold KR;rw[f7 (by rw[E];simp)]);rw[E]at K;clear E;go_in
  go_upto_region 1 with fail;rw[<-H];clear H;go_wp2_with fail;refine i7 K λw1 X1=>?_;go_wp2
  go_ret2;exact⟨⟨_,iX cF,by rw[HN.o];exact qj⟩,HX.trans X1.o⟩
 rw[E]at K;have HA:=I (show KR p V X lo c=L6 V X lo c by unfold KR;rw[f9 E]);have HG:=I (dU E);obtain⟨q,D4,Hh,JF,QE,_,Mx⟩:=ap HG.o;have Mu:=bp q JF;have GQ:n<=32:=k8 HL.o;have⟨hh1,hh2⟩:=HH.o HG.o;clear E D4 QE Mx;go_in
 go_upto_region 1 with fail;rw[<-H];clear H;go_wp2_with fail;refine i7 K λw1 A'=>?_;have HO1:=I (WV.Su w1 W _ rfl A'.size);have X1:=I (A'.trans (C7.alloc w1 (QD #[] 56)));go_wp2
 go_loopg [10,11] c (λgk oo ii wr=>∃(k s:Nat) (a1:l9) (n1 p1:Nat) (r:l7),b9 (gk+k=c)/\b9 (s=lo+k)/\oo=GI a1 n1 p1/\ii=U s/\b9 (LE (λk=>FK V X (lo+k)) k=some r)/\b9 (WV wr W (GI a1 n1 p1) r)/\b9 (C7 W wr))
 ·exact⟨0,lo,_,_,_,[],I j0,I rfl,rfl,rfl,I rfl,HO1,X1⟩
 obtain⟨k,s,a1,n1,p1,r,HK,G,rfl,rfl,Fv,HO,XR⟩:=hrel;have c0:=XR.o6 k0;have c1:=XR.o6 k1;have hsz:=XR.size;by_cases hlt:k<c
 ·have hle:(s:Int)<=hi:=by have:=G.o;omega
  have YO:s<n:=k8 G.o;have HE:=I (AM (p:=p) (HI.ext XR) (HR.ext XR) HG.o (s:=s) YO);obtain⟨x,y,ok,Eo⟩:∃x y ok,((FK V X s).getD (0,0),(FK V X s).isSome)=(((x,y):o4),ok):=⟨_,_,_,rfl⟩;rw[Eo]at HE;have Lv:=I Eo;clear Eo;go_wp2_with fail;refine i7 HE λw3 B5=>?_;have X4:=I ((XR.trans B5).trans (C7.alloc w3 (QD #[U x,U y] 56)));have EI:=I ((HO.ext B5).ext (C7.alloc w3 (QD #[U x,U y] 56)));have J8:=(XR.trans B5).size;cases ok
  ·have HN:=I (show KR p V X lo c=none by
    rw[HA.o];unfold L6;refine fs Fv.o ?_ hlt;rw[<-G.o];have:=Lv.o;simp only[wb]at this;cases Z:FK V X s with
    | none=>rfl
    | some z=>rw[Z]at this;simp at this)
   go_wp2;go_ret2;exact⟨⟨_,iX cF,by rw[HN.o];exact qj⟩,HX.trans X4.o⟩
  have I7:=I (ea (x:=(x,y)) Fv.o (by
   rw[<-G.o];have:=Lv.o;simp only[wb]at this;cases Z:FK V X s with
   | none=>rw[Z]at this;simp at this
   | some z=>rw[Z]at this;simp at this;rw[this]))
  have Ft:=I (cX Fv);have hk32:k<=32:=k8 G.o
  go_wp2_with (first
   | (at_builtin;refine Ot x y EI X4 WB λa2 n2 c2 w5 Hb X5 DT=>?_))
  refine er ?_;exact⟨k+1,s+1,a2,n2,c2,_,I (k8 HK.o),I (k8 G.o),rfl,by go_num,I7,DT,X5⟩
 have o7:k=c:=k8 HK.o;have hnle:¬(s:Int)<=hi:=k8 G.o;exact NM
structure P4(w w':J):Prop where
 ext:C7 w w'
 dr:w.drawn<=w'.drawn
theorem P4.trans{a b c:J}(h:P4 a b)(k:P4 b c):P4 a c:=⟨h.ext.trans k.ext,fy h.dr k.dr⟩
theorem P4.alloc(w:J)(o:Obj):P4 w (w.alloc o):=⟨C7.alloc w o,i8 _⟩
theorem E7.grw{w':J}(h:E7 w w'):P4 w w':=⟨h.ext,by obtain⟨m,rfl⟩:=h;exact Nat.le_add_right _ _⟩
theorem fO(x y:Int)(w:J):
 Calls prog 146 #[EF x y] w λe w'=>e=ar (bl (z7 (x,y)))/\P4 w w':=by
 have K:=I (P4.alloc w (QD #[U x,U y] 56));cases H:A4 y 1 1000000000
 ·have H1:=I H;clear H;go_in
  go_wp2_with fail;refine pk.mono ?_;rw[H1.o];rintro e E ⟨rfl,rfl⟩;go_wp2;go_ret;exact⟨ag (by simp[z7,H1.o]),K⟩
 have H1:=I H;have Q:D5 y:=by simp only[A4,eI,ef]at H;exact⟨by omega,by omega⟩
 clear H;cases G:A4 x (-1000000000) 1000000000
 ·have H2:=I G;clear G;go_in
  go_wp2_with fail;refine pk.mono ?_;rw[H1.o];rintro e E ⟨rfl,rfl⟩;go_wp2_with fail;refine pk.mono ?_;rw[H2.o];rintro e E ⟨rfl,rfl⟩;go_wp2;go_ret;exact⟨ag (by simp[z7,H2.o]),K⟩
 have H2:=I G;have hx:D5 x:=by simp only[A4,eI,ef]at G;exact⟨by omega,by omega⟩
 clear G;have HC:=I (ky x y (w.alloc (QD #[U x,U y] 56)) hx Q);go_in
 go_wp2_with fail;refine pk.mono ?_;rw[H1.o];rintro e E ⟨rfl,rfl⟩;go_wp2_with fail;refine pk.mono ?_;rw[H2.o];rintro e E ⟨rfl,rfl⟩;go_wp2_with fail;refine IR HC λE Z=>?_;go_wp2;go_ret;exact⟨ag tx,K.trans (E7.grw Z)⟩
def Pp{P:Prop}(h:P:=by
 go_in
 go_wp2_with fail;refine(fO x y _).mono ?_;rw[HA.o];rintro e w1 ⟨rfl,hx⟩;have⟨bA,bB⟩:=KS hx.ext;have⟨a0,a1,fa⟩:=bO bA;have⟨b0,b1,fb⟩:=bO bB;have X1:=I hx;clear hx bA bB;go_wp2_with fail;refine(fO u v _).mono ?_;rw[HB.o];rintro e w2 ⟨rfl,hx⟩;clear a0 a1 fa b0 b1 fb;have X2:=I (X1.trans hx);have⟨bA,bB⟩:=KS X2.ext;have⟨a0,a1,fa⟩:=bO bA;have⟨b0,b1,fb⟩:=bO bB;clear hx bA bB;go_wp2
 go_quiet (fail)
 go_wp2;go_ret;exact⟨au (by rw[HR.o,f7 j0,qq0 j0]),HX.trans (X2.trans (E7.grw ⟨_,rfl⟩))⟩
 ):P:=h
theorem AK(x y u v:Int)(w:J):
 Calls prog 137 #[EF x y,EF u v] w λe w'=>e=ar (U (DM (x,y) (u,v)))/\P4 w w':=by
 have HX:b9 (P4 w ((w.alloc (QD #[U x,U y] 56)).alloc (QD #[U u,U v] 56))):=(P4.alloc _ _).trans (P4.alloc _ _);cases E:z7 (x,y)
 ·have HA:=I E;have HR:=I (show DM (x,y) (u,v)=0 by simp[DM,E]);clear E;go_in
  go_wp2_with fail;refine i7 (fO x y _) λw1 X1=>?_;rw[HA.o];have⟨bA,bB⟩:=KS X1.ext;have⟨a0,a1,fa⟩:=bO bA;have⟨b0,b1,fb⟩:=bO bB;clear bA bB;go_wp2;go_ret;exact⟨au HR.symm,HX.trans X1.o⟩
 cases hb:z7 (u,v)
 ·refine t8 E hb (show DM (x,y) (u,v)=0 by simp[DM,hb]) λHA HB HR=>?_;clear E hb;go_in
  go_wp2_with fail;refine i7 (fO x y _) λw1 hx=>?_;rw[HA.o];have⟨bA,bB⟩:=KS hx.ext;have⟨a0,a1,fa⟩:=bO bA;have⟨b0,b1,fb⟩:=bO bB;have X1:=I hx;clear bA bB;go_wp2_with fail;refine i7 (fO u v _) λw2 hx=>?_;rw[HB.o];clear a0 a1 fa b0 b1 fb;have X2:=I (X1.trans hx);have⟨bA,bB⟩:=KS X2.ext;have⟨a0,a1,fa⟩:=bO bA;have⟨b0,b1,fb⟩:=bO bB;clear bA bB;go_wp2;go_ret;exact⟨au HR.symm,HX.trans X2.o⟩
 have HA:=I E;have HB:=I hb;have⟨x1,x2,y1,y2⟩:=dW E;have⟨u1,u2,v1,v2⟩:=dW hb;have q1:D5 (x*v):=en j0 j0;have Z:D5 (u*y):=en j0 j0;have⟨e1,g1⟩:=bM q1;have⟨e2,g2⟩:=bM Z;have K:DM (x,y) (u,v)=(if x*v<u*y then -1 else if u*y<x*v then 1 else 0):=by simp[DM,E,hb]
 have⟨P,H⟩:=e9 (x*v);have⟨Q,G⟩:=e9 (u*y);rw[<-H,<-G]at K;rw[<-H]at e1 g1;rw[<-G]at e2 g2;have HR:=I K;have hP':=H.symm;have hQ':=G.symm;clear E hb K q1 Z H G;by_cases h1:P<Q
 ·go_in
  go_wp2_with fail;refine i7 (fO x y _) λw1 hx=>?_;rw[HA.o];have⟨bA,bB⟩:=KS hx.ext;have⟨a0,a1,fa⟩:=bO bA;have⟨b0,b1,fb⟩:=bO bB;have X1:=I hx;clear bA bB;go_wp2_with fail;refine i7 (fO u v _) λw2 hx=>?_;rw[HB.o];clear a0 a1 fa b0 b1 fb;have X2:=I (X1.trans hx);have⟨bA,bB⟩:=KS X2.ext;have⟨a0,a1,fa⟩:=bO bA;have⟨b0,b1,fb⟩:=bO bB;clear bA bB;have qq0:=@E7.grw;exact Nq
 by_cases h2:Q<P
 ·have qq0:=@f9;exact Pp
 have qq0:=@f7;exact Pp
def VG:Go.Shelf.Ren:=⟨fun|6=>318|15=>334|14=>333|28=>350|29=>351|20=>342|21=>343|22=>344|23=>345|24=>346|25=>347|26=>348|27=>349|46=>356|47=>357|48=>358|49=>359|50=>360|57=>363|n=>n,fun|22=>32|24=>56|25=>123|3=>3|39=>165|0=>0|53=>216|55=>221|4=>4|46=>267|45=>266|50=>38|5=>5|9=>9|66=>274|70=>278|76=>280|77=>281|n=>n,fun|n=>n⟩
theorem SX:Go.Proofs.SlLaysF0.n6 prog VG:={
 mixed:=by kernel_rfl
 f6:=⟨Tryz.f318.name,by decide,func318.trans (If some j8)⟩
 f14:=⟨Tryz.f333.name,by decide,func333.trans (If some j8)⟩
 f15:=func334.trans (If some j8)
 f20:=⟨Tryz.f342.name,by decide,func342.trans (If some j8)⟩
 f21:=⟨Tryz.f343.name,by decide,func343.trans (If some j8)⟩
 f22:=⟨Tryz.f344.name,by decide,func344.trans (If some j8)⟩
 f23:=⟨Tryz.f345.name,by decide,func345.trans (If some j8)⟩
 f24:=⟨Tryz.f346.name,by decide,func346.trans (If some j8)⟩
 f25:=⟨Tryz.f347.name,by decide,func347.trans (If some j8)⟩
 f26:=⟨Tryz.f348.name,by decide,func348.trans (If some j8)⟩
 f27:=⟨Tryz.f349.name,by decide,func349.trans (If some j8)⟩
 f28:=func350.trans (If some j8)
 f29:=func351.trans (If some j8)
 f46:=⟨Tryz.f356.name,by decide,func356.trans (If some j8)⟩
 f47:=func357.trans (If some j8)
 f48:=func358.trans (If some j8)
 f49:=⟨Tryz.f359.name,by decide,func359.trans (If some j8)⟩
 f50:=⟨Tryz.f360.name,by decide,func360.trans (If some j8)⟩
 f57:=⟨Tryz.f363.name,by decide,func363.trans (If some j8)⟩
 t0:=NA
 a0:=Qn
 z0:=Q2
 v0:=Em
 t3:=rb
 a3:=Qj
 z3:=RL
 v3:=M1
 t4:=nS
 a4:=QC
 z4:=T6
 v4:=R3
 t5:=V3
 a5:=TB
 z5:=NB
 v5:=S5
 t9:=QU
 a9:=Mv
 z9:=TD
 v9:=QK
 t22:=YN
 a22:=Tryz.isAgg32
 z22:=Tryz.sizeOf32
 v22:=Tryz.zeroValue32
 t25:=Tryz.underlying123
 a25:=Tryz.isAgg123
 z25:=Tryz.sizeOf123
 v25:=Tryz.zeroValue123
 t39:=L2
 a39:=Iy
 z39:=Ty
 v39:=Wk
 t45:=Tryz.underlying266
 a45:=Tryz.isAgg266
 z45:=Tryz.sizeOf266
 v45:=Tryz.zeroValue266
 t46:=Tryz.underlying267
 a46:=Tryz.isAgg267
 z46:=Tryz.sizeOf267
 v46:=Tryz.zeroValue267
 t50:=Tryz.underlying38
 a50:=Tryz.isAgg38
 z50:=Tryz.sizeOf38
 v50:=Tryz.zeroValue38
 t53:=Ps
 a53:=Ld
 z53:=y3
 v53:=Xa
 t55:=Tryz.underlying221
 a55:=Tryz.isAgg221
 z55:=Tryz.sizeOf221
 v55:=Tryz.zeroValue221
 t66:=Tryz.underlying274
 a66:=Tryz.isAgg274
 z66:=Tryz.sizeOf274
 v66:=Tryz.zeroValue274
 t70:=Tryz.underlying278
 a70:=Tryz.isAgg278
 z70:=Tryz.sizeOf278
 v70:=Tryz.zeroValue278
 t76:=Tryz.underlying280
 a76:=Tryz.isAgg280
 z76:=Tryz.sizeOf280
 v76:=Tryz.zeroValue280
 t77:=Tryz.underlying281
 a77:=Tryz.isAgg281
 z77:=Tryz.sizeOf281
 v77:=Tryz.zeroValue281 }
abbrev VR:Type:={ r:Int×Int // z7 r=true }
instance:Inhabited VR:=⟨⟨(0,1),by decide⟩⟩
def L7(x:VR):List arQ:=[U x.1.1,U x.1.2]
def Qb(x:o4):VR:=if h:z7 x=true then⟨x,h⟩ else default
theorem Ad{x:o4}(h:z7 x=true):(Qb x).1=x:=by unfold Qb;rw[dif_pos h]
def PO(x y:VR):Int:=DM y.1 x.1
theorem P4.grow{w':J}(h:P4 w w'):∃(q:Nat) (os:Array Obj),w'=Sort.grow (w.drewN q) os:=by
 obtain⟨hx,Z⟩:=h;obtain⟨Q,K,H,h4,G⟩:=hx;obtain⟨heap,tape,drawn,os,output⟩:=w;obtain⟨Pl,tape',E,os',output'⟩:=w';simp only at Q K H h4 G Z;subst Q K H;refine⟨E-drawn,Pl.extract heap.size Pl.size,?_⟩;have e1:drawn+(E-drawn)=E:=j0;have e2:heap++Pl.extract heap.size Pl.size=Pl:=by
  apply Array.ext_getElem?;intro i;by_cases hi:i<heap.size
  ·rw[Array.getElem?_append_left hi,G i hi]
  rw[Array.getElem?_append_right j0,Array.getElem?_extract];by_cases hj:i<Pl.size
  ·rw[f9 j0];congr 1;omega
  rw[f7 j0,Array.getElem?_eq_none j0]
 unfold Sort.grow World.drewN;simp only[e1,e2]
theorem mI:∀(l:l7) (t:Nat),(Fw l)[t]?=(l[t/2]?).map λp=>if t % 2=0 then Value.int .i64 p.1 else Value.int .i64 p.2
 | [],t=>by simp[Fw]
 | p::l,0=>by simp[Fw]
 | p::l,1=>by simp[Fw]
 | p::l,t+2=>by
   have e:Fw (p::l)=Value.int .i64 p.1::Value.int .i64 p.2::Fw l:=by simp[Fw]
   rw[e,SB,SB,mI l t,show(t+2)/2=t/2+1 by omega,SB,show(t+2) % 2=t % 2 by omega]
theorem pG(l:l7):JL (Fw l)=JL l*2:=by
 induction l with
 | nil=>rfl
 | cons p l ih =>
   have e:Fw (p::l)=Value.int .i64 p.1::Value.int .i64 p.2::Fw l:=by simp[Fw]
   rw[e,nR,nR,nR,ih];omega
theorem uc(d:Array VR):(Sort.flatK L7 2 d).toList=Fw (d.toList.map (·.1)):=by
 apply Tz;intro t;rw[mI];by_cases E:t<d.size*2
 ·have G:t/2<d.size:=by omega
  rw[NP,Rk (by rw[R8];exact E),<-getElem!_pos (Sort.flatK L7 2 d) t (by rw[R8];exact E),Sort.get_flatK _ _ _ _ E];rw[vM,NP,Rk G,getElem!_pos d (t/2) G];simp only[yl];rcases Nat.mod_two_eq_zero_or_one t with h|h
  ·rw[h];rfl
  rw[h];rfl
 rw[q8 (by rw[TY,R8];omega),q8 (by rw[dc,TY];omega)]
 rfl
theorem VZ:Sort.SWO (ltOf PO):=by
 have E:∀x y:VR,ltOf PO x y=!LG y.1 x.1:=λx y=>by unfold ltOf PO LG;rw[R']
 refine⟨λx=>?_,λx y z h k=>?_,λx y z h k=>?_⟩
 ·rw[E];rcases kW x.2 x.2 with h|h<;>rw[h]<;>rfl
 ·rw[E,gr]at h k⊢;cases hz:LG z.1 x.1 with
  | false=>rfl
  | true =>
    have G:LG x.1 y.1=true:=(kW x.2 y.2).resolve_right (by rw[h];simp);have:=nQ z.2 x.2 y.2 hz G;rw[k]at this;cases this
 rw[E,Bool.not_eq_false']at h k⊢;exact nQ z.2 y.2 x.2 k h
theorem Kp(x y:VR)(h:ltOf PO x y=false)(k:ltOf PO y x=false):x=y:=by
 have E:∀x y:VR,ltOf PO x y=!LG y.1 x.1:=λx y=>by unfold ltOf PO LG;rw[R']
 rw[E,Bool.not_eq_false']at h k;exact Subtype.ext (wg x.2 y.2 k h)
theorem p6{l:l7}(E:∀y∈l,z7 y=true):(((l.map Qb).toArray.toList.mergeSort λx y=>!(ltOf PO) y x).map (·.1))=Hq l:=by
 have hb:l.map (λx=>(Qb x).1)=l:=by
  conv=>rhs;rw[<-List.map_id l]
  exact W6 λx hx=>Ad (E x hx)
 refine DC E ?_ ?_
 ·refine((List.mergeSort_perm _ _).map _).trans ?_;rw[V',Uc];exact List.Perm.of_eq hb
 rw[List.pairwise_map];have:=List.pairwise_mergeSort (le:=λx y:VR=>!(ltOf PO) y x) (λa b c h k=>by
  simp only[gr]at h k⊢;exact VZ.ntrans _ _ _ k h) (λa b=>by
  simp only[Bool.or_eq_true,gr];unfold ltOf PO;rcases kW a.2 b.2 with h|h
  ·left;unfold LG at h;simpa using h
  right;unfold LG at h;simpa using h) (l.map Qb).toArray.toList
 refine this.imp λ{a b} h=>?_;unfold ltOf PO at h;unfold LG;exact h
theorem VT(x y:VR)(w:J):
 Calls prog 319 #[.agg (L7 x).toArray,.agg (L7 y).toArray] w λe w'=>e=ar (U (PO x y))/\P4 w w':=by
 obtain⟨⟨K,H⟩,hx⟩:=x;obtain⟨⟨G,E⟩,Q⟩:=y;have Z:=I ((P4.alloc w (QD #[U K,U H] 56)).trans (P4.alloc _ (QD #[U G,U E] 56)));show Calls prog 319 #[.agg #[U K,U H],.agg #[U G,U E]] w λe w'=>e=ar (U (DM (G,E) (K,H)))/\P4 w w'
 clear hx Q;go_in
 go_wp2_with fail;refine IR (AK G E K H _) λw1 h=>?_;go_wp2;go_ret;exact⟨rfl,Z.trans h⟩
theorem pX:NE prog 319:=cR func319 j8 j8
theorem Z7{base g cap:Nat}{l:l7}(h:WV w base (EQ g n cap) l)(hl:∀y∈l,z7 y=true)(hn:n<=1000000):
 Calls prog 318 #[EQ g n cap,.func (.func 319) #[] #[]] w λe w' =>
  e=ar (.tuple #[])/\WV w' base (EQ g n cap) (Hq l)/\∀W0:J,C7 W0 w->W0.heap.size<=g->C7 W0 w':=by
 have hlen:=h.rats.hlen;rcases h.2 with⟨he,h0⟩|⟨g',cap',E,he,hb,hg,h1,h2,hs,ht⟩
 ·cases he
 simp only[nP,bq,H4,E5]at he;obtain⟨rfl,hnl,rfl⟩:=he;obtain⟨d,hd⟩:∃d:Array VR,d=(l.map Qb).toArray:=⟨_,rfl⟩;have K:d.size=n:=by rw[hd];simp[hlen]
 have hdl:d.toList.map (·.1)=l:=by
  rw[hd,V',Uc]
  conv=>rhs;rw[<-List.map_id l]
  exact W6 λx hx=>Ad (hl x hx)
 have ahL:(Sort.flatK L7 2 d).toList=Fw l:=by rw[uc,hdl]
 have hH:Sort.HoldsK L7 2 w g 0 d:=by
  intro j H;rw[R8]at H;refine⟨?_,by simp[World.frozen?,hg]⟩;have h3:(E.toList.take (JL l*2))[j]?=(Fw l)[j]?:=by rw[ht]
  rw[bB j0]at h3;rw[hI,aR w g j E _ _ hg,<-NP,h3,<-ahL,NP,getElem!_pos _ j (by rw[R8];exact H),Rk]
  rfl
 have Q:CmpLays prog 319 #[] L7 2 PO g 0 d.size w:=λm os dk _ x y =>
  (VT x y _).mono λe w' ⟨he,hw⟩=>⟨he,hw.grow⟩
 have G:=AnyQ.slices_SortFunc_total SX 2 (λ_=>by kernel_rfl) (λ_=>by kernel_rfl) L7 (λ_=>rfl) (λx v hv=>by simp[L7]at hv;rcases hv with rfl|rfl<;>rfl) PO VZ 319 #[] g 0 cap d w pX Q hH (In hg) j0 Kp;rw[K]at G;refine Calls.mono G ?_;rintro e w' ⟨rfl,q,os,rfl⟩;have Z:JL ((d.toList.mergeSort λx y=>!(ltOf PO) y x))=n:=by rw[List.length_mergeSort,TY,K]
 have hfl:(Sort.flatK L7 2 ((d.toList.mergeSort λx y=>!(ltOf PO) y x)).toArray).toList=Fw (Hq l):=by
  rw[uc,V',hd,p6 hl]
 have JK:g<w.heap.size:=In hg;have hh:(sortWorldK L7 2 w g 0 q ((d.toList.mergeSort λx y=>!(ltOf PO) y x)).toArray os).heap[g]?=some (QD (Sort.putCells id 0 (Sort.flatK L7 2 ((d.toList.mergeSort λx y=>!(ltOf PO) y x)).toArray) E) 56 (0,0)):=by
  unfold sortWorldK Sort.putRowK;rw[Sort.heap_grow_old _ _ (by simpa using JK)];simp[Sort.putRow,Sort.mapBlock,Sort.ahead,Array.getElem?_modify,hg,Sort.onCells]
 refine⟨rfl,⟨by rw[pG,jb,hlen],.inr ⟨g,cap,_,by rw[jb,hlen],hb,hh,by rw[jb];exact h1,h2,by simp[Sort.putCells,hs],?_⟩⟩,λW0 hx hW=>?_⟩
 ·rw[<-hfl];generalize hF:Sort.flatK L7 2 ((d.toList.mergeSort λx y=>!(ltOf PO) y x)).toArray=F;have hFs:F.size=n*2:=by rw[<-hF,R8];simp[Z]
  rw[jb,hlen];apply Tz;intro j;by_cases H:j<n*2
  ·rw[bB H,NP,NP];simp[Sort.putCells,H,hFs,show j<E.size by omega]
  rw[List.getElem?_take_eq_none j0,q8 (by rw[TY];omega)]
 refine⟨hx.os,hx.tape,hx.output,?_,λk hk=>?_⟩
 ·have:=hx.size;unfold sortWorldK Sort.putRowK;refine fy this ?_;simp[Sort.grow,Sort.putRow,Sort.mapBlock,Sort.ahead]
 have Wz:k<w.heap.size:=Pw hk hx.size;unfold sortWorldK Sort.putRowK;rw[Sort.heap_grow_old _ _ (by simpa using Wz)];have:g≠k:=j0;rw[<-hx.block k hk];simp[Sort.putRow,Sort.mapBlock,Sort.ahead,Array.getElem?_modify,this]
