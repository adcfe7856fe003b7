import Derived.Test.YthpahcbmpoknmaaGreatDoorPzG25
import Derived.Shelf.SlSortCmp.NoneTotal
set_option linter.all false
set_option maxHeartbeats 6000000
set_option maxRecDepth 100000
namespace Go.Proofs.YthpahcbmpoknmaaGreatDoor
open Ending renaming returned->atn
open List renaming length->Lp
open Obj renaming cells->SH
open Value renaming slice->FB,bool->ato,pointer->ats
open Go.Proofs.Tryz Go.RowKit Go.Shelf
variable{σ:Prop}
section
abbrev nF:=@Sort.size_flatK
abbrev ds:=@Lib.count_one
abbrev SR:=@Lib.index_one
def TD(h:σ:=by rw[Tp.o,<-MR.o];exact Iy):σ:=h
variable{w:J}{a b:o6}{n m Gl:Nat}{X:o3}{V:o7}
theorem vj{cap:Nat}(h:i8 w a n cap X)(s:Nat)(hs:s<32):
 f9 162 #[FB a n cap,.int .i64 (s:Int)] w (Kg ((cw X s).getD (0,0),(cw X s).isSome)):=by
 have HL:=I h.hlen;have y7:=h.y7;have y8:=h.y8;have B9:=D4.alloc w (SH #[.int .i64 0,.int .i64 0] 80);refine Fn (h.ext B9) B9 (ah w (SH #[.int .i64 0,.int .i64 0] 80) _ rfl) λHI B4 E6=>?_;have FA:A8 (s:Int) 0 31=true:=by unfold A8;simp;omega
 clear h B9;(try unfold f9);go_in
 go_wp2_with rfl;refine ns.mono ?_;rw[FA];rintro e w0 ⟨rfl,rfl⟩;go_wp2_with rfl;refine i6 (cW 0 _) λw1 B0=>?_;have A6:=I B0;have hs31:¬((s:Int) > 31):=O;have ME:¬((s:Int)<0):=O;clear B0;go_wp2_with rfl;refine yf (qr s hs _) λw2 v2 Is C9=>?_;obtain⟨am,nm,cm,rfl,K⟩:=Is.var;refine Fn Is ((ai.new (D4.refl w1) 0 1).grow C9) K.out λOT Mo H=>?_;have Zs:=Is.ints.y7;have Zr:=Is.ints.y8;clear Is C9 K;have⟨mem,T4⟩:=j7 (JY (s:Int) 5);have U':=I (λi h=>uv (s:Int) i h);rw[<-T4]at OT H U';have Q2:=I (show cw X s=I4 X mem (0,1)by unfold cw;rw[T4]);clear T4;have IE:=I (λ(w':J) (hx:D4 w1 w')=>(hx.block _ Um).trans ((A6.block _ (IO E6)).trans E6));have Ig:=I (B4.trans A6);have Ze:w.heap.size<w1.heap.size:=by have:=IO E6.o;have:=A6.size;omega
 go_wp2
 go_loopg [19] nm (λgk ii wr=>∃(k:Nat) (p q:Int),e9 (gk+k=nm)/\ii=.int .i64 (k:Int)/\e9 (ai w1 wr w1 p q)/\e9 (I4 X (mem.take k) (0,1)=some (p,q))/\e9 (y9 wr w1 (FB am nm cm) mem))
 ·exact NF
 obtain⟨k,p,q,HK,rfl,HB,HT,HM⟩:=hrel;have I7:=HB.c0;have Gm:=HB.c1;have LZ:=HB.lt;have afU:=HB.ext.size;by_cases Z:k<nm
 ·have GF:k<Lp mem:=by rw[H.o];exact Z
  obtain⟨j,hj,hj5,_,_⟩:=U'.o k GF;have⟨lb,Yw,hle,hlc⟩:=HM.ints.at Z;subst hle;rw[hj]at hlc;by_cases JK:j<n
  ·have⟨xb,Py,x,y,Vo,FI,TM,UI⟩:=(HI.ext (A6.trans HB.ext)).at JK;subst Vo;have Zx:¬(Lp X:Int)<=(j:Int):=by rw[HL.o];omega
   obtain⟨p2,q2,ok,Fw⟩:∃p2 q2 ok,F6 (p,q) (x,y)=((p2,q2),ok):=⟨_,_,_,rfl⟩;have Gi:=I Fw;have Hx:=I (show I4 X [mem[k]?.getD 0] (p,q)=if ok=true then some (p2,q2) else none by
    rw[hj];simp only[I4];rw[f8 Zx,eI,FI,Fw])
   have Hk:=I GF;clear hj Fw FI GF Zx;go_upto_region 9 with rfl
   have qq0:=@kW;have qq1:=@Sz;exact Wm
  have qq0:=@Sz;exact OC
 have E':nm=k:=l8 HK.o;subst E';have HY:=I (show cw X s=some (p,q)by
  rw[Q2.o];have h:=HT.o;rwa [aP (by rw[H.o];exact m9 _)]at h)
 have qq0:=@Sz;exact Rt
theorem sL{p:Int}{cap:Nat}(h:d6 w a n cap V)(hx:i8 w b m Gl X):
 f9 87 #[Id p a n cap,FB b m Gl] w (ato (Gf p V X)):=by
 have qq0:=@bV;have qq1:=@mZ;have qq2:=@vj;have qq3:=@iR;have qq4:=@cW;exact Vo
def MK(p:Int)(V:o7)(X:o3)(lo c:Nat):Option (o3):=if Gf p V X=true then NS V X lo c else none
def cA(h:σ:=by
 refine uf ⟨by rfl,?_⟩;intro w hSw;(try dsimp only at hSw);go_simp;(try with_reducible rfl)
 ):σ:=h
theorem BN{p:Int}{cap:Nat}(h:d6 w a n cap V)(hx:i8 w b m Gl X)(hg:ak p V=true){s:Nat}(hs:s<n):
 f9 218 #[Id p a n cap,FB b m Gl,.int .i64 (s:Int)] w (Kg ((He V X s).getD (0,0),(He V X s).isSome)):=by
 have⟨W,hW⟩:=j7 ((w.alloc (SH #[.int .i64 p,FB a n cap] 31)).alloc (SH #[.int .i64 0,.int .i64 0] 80));have Fp:=I (show W.heap.size=w.heap.size+2 by rw[hW];simp);have hX:D4 w W:=by rw[hW];exact ZL.trans ZL
 refine y5 (show W.heap[w.heap.size+1]?=some (SH #[.int .i64 0,.int .i64 0] 80 (0,0))by rw[hW];exact LE j9) (show W.cell? ⟨w,0,none⟩=some (.int .i64 p)by rw[hW];exact D4.o9 ZL j9) (show W.cell? ⟨w,1,none⟩=some (FB a n cap)by rw[hW];exact D4.o9 ZL j9) (h.ext hX) (hx.ext hX) hX λE6 Kz K9 HI HR HX=>?_;have HV:=I (bV (p:=p) HI);rw[hg,hW]at HV;have HL:=I h.hlen;obtain⟨q,rfl,I6,Lk,SI,_,Om⟩:=ap hg;have hc:=bp q Lk;have IU:n<=32:=l8 HL.o;have y7:=h.y7;have y8:=h.y8;have FA:A8 (s:Int) 0 ((n:Int)-1)=true:=by unfold A8;simp;omega
 clear h hx hX hg SI Om;(try unfold f9);go_in
 go_wp2_with rfl;refine HV.mono ?_;rw[<-hW];rintro e w1 ⟨rfl,B0⟩;have X1:=I B0;have b0:=B0.o9 Kz.o;have b1:=B0.o9 K9.o;clear B0 hW;go_wp2_with rfl;refine ns.mono ?_;rw[FA];rintro e w2 ⟨rfl,rfl⟩;clear FA;go_wp2_with rfl;refine(vj (HR.ext X1) s O).mono ?_;obtain⟨r1,r2,one,hr⟩:∃r1 r2 one,((cw X s).getD (0,0),(cw X s).isSome)=(((r1,r2):o8),one):=⟨_,_,_,rfl⟩;rw[hr];have RN:=I hr;rintro e w3 ⟨rfl,C0⟩;have⟨H,Hr⟩:=j7 (w3.alloc (SH #[.int .i64 r1,.int .i64 r2] 80));have E4:D4 w3 H:=by rw[Hr];exact ZL
 have X4:=I ((X1.trans C0).trans E4);have c0:=(C0.trans E4).o9 b0;have c1:=(C0.trans E4).o9 b1;have d0:H.cell? ⟨w3,0,none⟩=some (.int .i64 r1):=by rw[Hr];simp
 have d1:H.cell? ⟨w3,1,none⟩=some (.int .i64 r2):=by rw[Hr];simp
 obtain⟨vb,vo,rfl,OA⟩:=(HI.ext X4).at hs;have⟨v,hv⟩:=j7 (V[s]?.getD 0);rw[<-hv]at OA;obtain⟨p2,q2,ok,Fw⟩:∃p2 q2 ok,FD (v,1) (r1,r2)=((p2,q2),ok):=⟨_,_,_,rfl⟩;have Gi:=I Fw;have Hb:=I hv;clear hr C0 E4 b0 b1 hv Fw;go_upto_region 4 with rfl;rw[<-Hr];clear Hr;have hr:=bO ((X4.block _ (l8 Fp.o)).trans E6);obtain⟨FH,FL,JR⟩:=hr;have XF:=I (HX.trans X4);cases one
 ·have HN:=I (show He V X s=none by
   have:=RN.o;simp only[sj]at this;unfold He;cases Z:cw X s with
   | none=>rfl
   | some r=>rw[Z]at this;simp at this)
  have qq0:=@results218;exact Wg
 have HN:=I (show He V X s=if ok=true then some (p2,q2) else none by
  have:=RN.o;simp only[sj]at this;unfold He;cases Z:cw X s with
  | none=>rw[Z]at this;simp at this
  | some r =>
    rw[Z]at this;simp only[NE]at this;rw[this.1];show PW (V[s]?.getD 0) (r1,r2)=_;unfold PW;rw[<-Hb.o,Gi.o])
 have HZ:=I (show ok=false->p2=0/\q2=0 by
  intro D9;have h1:=Gi.o;have h2:=px (a:=(v,1)) (b:=(r1,r2)) (by rw[h1];exact D9);rw[h1]at h2;simp only[sj]at h2;exact h2)
 have G:=D4.drew H;have r8:=I λw' (h:D4 H w')=>TX (h.o9 c1) (TX (h.o9 OA) (TX (h.o9 d0) (TX (h.o9 d1) h)));clear FH FL JR;go_wp2_with rfl;refine cj (M:=[10]) (S:=λw'=>w'.cell? ⟨w,1,none⟩=some (FB (some ⟨vb,vo,none⟩) n cap)/\w'.cell? ⟨vb,vo+s,none⟩=some (.int .i64 v)/\w'.cell? ⟨w3,0,none⟩=some (.int .i64 r1)/\w'.cell? ⟨w3,1,none⟩=some (.int .i64 r2)/\D4 H w') k8 ?_;have r9:=r8.o _ G;have⟨wd,hwd⟩:=j7 H.drew;rw[<-hwd]at G r9;rw[<-hwd];clear hwd;refine ly ⟨?_⟩;refine ll 4 ?_;refine ll 6 ?_;refine Im 5 λK hK=>?_;go_simp;go_at_call 128;refine i6 (cW _ _) λw5 F'=>?_;have G:D4 H w5:=G.trans F';clear F';go_wp2_with rfl;refine KL (r8 _ G) λr9=>?_
 refine Im 7 λK hK=>?_;go_simp;go_at_call 213;refine(ng _ _ _ _ _).mono ?_;rw[Gi.o];rintro e w6 ⟨rfl,Jg⟩;have G:D4 H w6:=G.trans Jg;clear Jg;have hr6:=bO (((X4.trans G).block _ (l8 Fp.o)).trans E6);obtain⟨FH,FL,JR⟩:=hr6;go_wp2_with rfl;refine KL (r8 _ G) λr9=>?_
 refine lp 8 ?_;refine lp 9 ?_;refine Ql 10 ?_;refine kq (i:=11) (oi:=?_) (v:=?_) ?_ ?_ ?_ ?_ ?_ ?_ ?_ ?_ ?_;rotate_left 2
 ·simp only[gA,gB,gC];rfl
 ·kernel_rfl
 ·kernel_rfl
 ·kernel_rfl
 ·kernel_rfl
 ·exact λ_ _ _ h=>h
 ·exact cA
 ·kernel_rfl
 try simp only[Act.put,sA,sB,sC]
 refine cU k8 ?_ _;have XG:=I (HX.trans (X4.trans G));go_wp2;refine GE (by simp[results,results218,go_sem,FH,FL]<;>rfl) rfl ⟨?_,(XG.store 0 O _).store 1 O _⟩;rw[HN.o];cases ok
 ·have⟨z1,z2⟩:=HZ.o rfl;rw[z1,z2];rfl
 rfl
theorem iS{p:Int}{cap:Nat}(h:d6 w a n cap V)(hx:i8 w b m Gl X)(lo c:Nat)(hi:Int)(hh:ak p V=true->hi+1=(lo:Int)+c/\lo+c<=n):
 Calls prog 137 #[Id p a n cap,FB b m Gl,U lo,U hi] w λe w'=>(∃v,e=atn (.tuple #[v,ato (MK p V X lo c).isSome])/\ZM w' w v ((MK p V X lo c).getD []))/\D4 w w':=by
 have HX:=I (D4.alloc w (SH #[U p,FB a n cap] 31));refine Fn (h.ext HX) (hx.ext HX) h.hlen λHI HR HL=>?_;have⟨y7,y8⟩:=h.ath;have Z:=I (sL (p:=p) HI.o HR);have k0:(w.alloc (SH #[U p,FB a n cap] 31)).cell? (IM w 0)=some (U p):=j9;have k1:(w.alloc (SH #[U p,FB a n cap] 31)).cell? (IM w 1)=some (FB a n cap):=j9;have⟨W,K⟩:=j7 (w.alloc (SH #[U p,FB a n cap] 31));rw[<-K]at HX HI HR Z k0 k1;have Fp:=I (show W.heap.size=w.heap.size+1 by rw[K];simp);have HH:=I hh;clear h hx hh;cases G:Gf p V X
 ·have HN:=I (show MK p V X lo c=none by unfold MK;rw[f8 (by rw[G];simp)]);rw[G]at Z;clear G;go_in
  go_upto_region 1 with rfl;rw[<-K];clear K;go_wp2_with rfl;refine qc Z λw1 X1=>?_;go_wp2
  go_ret2;exact⟨⟨_,jp V1,by rw[HN.o];exact og⟩,HX.trans X1.o⟩
 rw[G]at Z;have HA:=I (show MK p V X lo c=NS V X lo c by unfold MK;rw[i7 G]);have HG:=I (dY G);obtain⟨q,Fw,I6,Lk,SI,_,Om⟩:=ap HG.o;have Oi:=bp q Lk;have IU:n<=32:=l8 HL.o;have⟨hh1,hh2⟩:=HH.o HG.o;clear G Fw SI Om;go_in
 go_upto_region 1 with rfl;rw[<-K];clear K;go_wp2_with rfl;refine qc Z λw1 B0=>?_;have HO1:=I (ZM.UE w1 W _ rfl B0.size);have X1:=I (B0.trans (D4.alloc w1 (SH #[] 80)));go_wp2
 go_loopg [10,11] c (λgk oo ii wr=>∃(k s:Nat) (a1:o6) (n1 p1:Nat) (r:o3),e9 (gk+k=c)/\e9 (s=lo+k)/\oo=FB a1 n1 p1/\ii=U s/\e9 (Nm (λk=>He V X (lo+k)) k=some r)/\e9 (ZM wr W (FB a1 n1 p1) r)/\e9 (D4 W wr))
 ·exact⟨0,lo,_,_,_,[],I O,I rfl,rfl,rfl,I rfl,HO1,X1⟩
 obtain⟨k,s,a1,n1,p1,r,HK,H,rfl,rfl,GV,HO,XR⟩:=hrel;have c0:=XR.o9 k0;have c1:=XR.o9 k1;have hsz:=XR.size;by_cases hlt:k<c
 ·have hle:(s:Int)<=hi:=by have:=H.o;omega
  have hsn:s<n:=l8 H.o;have HE:=I (BN (p:=p) (HI.ext XR) (HR.ext XR) HG.o (s:=s) hsn);obtain⟨x,y,ok,FI⟩:∃x y ok,((He V X s).getD (0,0),(He V X s).isSome)=(((x,y):o8),ok):=⟨_,_,_,rfl⟩;rw[FI]at HE;have LD:=I FI;clear FI;go_wp2_with rfl;refine qc HE λw3 C0=>?_;have X4:=I ((XR.trans C0).trans (D4.alloc w3 (SH #[U x,U y] 80)));have Gh:=I ((HO.ext C0).ext (D4.alloc w3 (SH #[U x,U y] 80)));have LR:=(XR.trans C0).size;cases ok
  ·have HN:=I (show MK p V X lo c=none by
    rw[HA.o];unfold NS;refine fB GV.o ?_ hlt;rw[<-H.o];have:=LD.o;simp only[sj]at this;cases hq:He V X s with
    | none=>rfl
    | some z=>rw[hq]at this;simp at this)
   go_wp2;go_ret2;exact⟨⟨_,jp V1,by rw[HN.o];exact og⟩,HX.trans X4.o⟩
  have Ky:=I (eg (x:=(x,y)) GV.o (by
   rw[<-H.o];have:=LD.o;simp only[sj]at this;cases hq:He V X s with
   | none=>rw[hq]at this;simp at this
   | some z=>rw[hq]at this;simp at this;rw[this]))
  have GS:=I (cZ GV);have hk32:k<=32:=l8 H.o
  go_wp2_with (first
   | (at_builtin;refine Qt x y Gh X4 WI λa2 n2 c2 w5 Jb X5 Fj=>?_))
  refine dk ?_;exact⟨k+1,s+1,a2,n2,c2,_,I (l8 HK.o),I (l8 H.o),rfl,by go_num,Ky,Fj,X5⟩
 have r7:k=c:=l8 HK.o;have hnle:¬(s:Int)<=hi:=l8 H.o;exact LX
structure RX(w w':J):Prop where
 ext:D4 w w'
 dr:w.drawn<=w'.drawn
theorem RX.trans{a b c:J}(h:RX a b)(k:RX b c):RX a c:=⟨h.ext.trans k.ext,bR h.dr k.dr⟩
theorem RX.alloc(w:J)(o:Obj):RX w (w.alloc o):=⟨D4.alloc w o,m9 _⟩
theorem F8.grw{w':J}(h:F8 w w'):RX w w':=⟨h.ext,by obtain⟨m,rfl⟩:=h;exact Nat.le_add_right _ _⟩
theorem fV(x y:Int)(w:J):
 Calls prog 143 #[Ge x y] w λe w'=>e=atn (ato (A5 (x,y)))/\RX w w':=by
 have Q:=I (RX.alloc w (SH #[U x,U y] 80));cases K:A8 y 1 1000000000
 ·have H1:=I K;clear K;go_in
  go_wp2_with rfl;refine ns.mono ?_;rw[H1.o];rintro e G ⟨rfl,rfl⟩;go_wp2;go_ret;exact⟨ag (by simp[A5,H1.o]),Q⟩
 have H1:=I K;have Z:Fy y:=by simp only[A8,cM,cq]at K;exact⟨by omega,by omega⟩
 clear K;cases H:A8 x (-1000000000) 1000000000
 ·have H2:=I H;clear H;go_in
  go_wp2_with rfl;refine ns.mono ?_;rw[H1.o];rintro e G ⟨rfl,rfl⟩;go_wp2_with rfl;refine ns.mono ?_;rw[H2.o];rintro e G ⟨rfl,rfl⟩;go_wp2;go_ret;exact⟨ag (by simp[A5,H2.o]),Q⟩
 have H2:=I H;have hx:Fy x:=by simp only[A8,cM,cq]at H;exact⟨by omega,by omega⟩
 clear H;have HC:=I (kZ x y (w.alloc (SH #[U x,U y] 80)) hx Z);go_in
 go_wp2_with rfl;refine ns.mono ?_;rw[H1.o];rintro e G ⟨rfl,rfl⟩;go_wp2_with rfl;refine ns.mono ?_;rw[H2.o];rintro e G ⟨rfl,rfl⟩;go_wp2_with rfl;refine i6 HC λG hd=>?_;go_wp2;go_ret;exact⟨ag Lg,Q.trans (F8.grw hd)⟩
def VA(h:σ:=by
 go_in
 go_wp2_with rfl;refine(fV x y _).mono ?_;rw[HA.o];rintro e w1 ⟨rfl,hx⟩;have⟨bA,bB⟩:=ML hx.ext;have⟨a0,a1,fa⟩:=bO bA;have⟨b0,b1,fb⟩:=bO bB;have X1:=I hx;clear hx bA bB;go_wp2_with rfl;refine(fV u v _).mono ?_;rw[HB.o];rintro e w2 ⟨rfl,hx⟩;clear a0 a1 fa b0 b1 fb;have X2:=I (X1.trans hx);have⟨bA,bB⟩:=ML X2.ext;have⟨a0,a1,fa⟩:=bO bA;have⟨b0,b1,fb⟩:=bO bB;clear hx bA bB;go_wp2
 go_quiet (fail)
 go_wp2;go_ret;exact⟨au (by rw[HR.o,f8 O,qq0 O]),HX.trans (X2.trans (F8.grw ⟨_,rfl⟩))⟩
 ):σ:=h
theorem BL(x y u v:Int)(w:J):
 Calls prog 134 #[Ge x y,Ge u v] w λe w'=>e=atn (U (D' (x,y) (u,v)))/\RX w w':=by
 have HX:e9 (RX w ((w.alloc (SH #[U x,U y] 80)).alloc (SH #[U u,U v] 80))):=(RX.alloc _ _).trans (RX.alloc _ _);cases G:A5 (x,y)
 ·have HA:=I G;have HR:=I (show D' (x,y) (u,v)=0 by simp[D',G]);clear G;go_in
  go_wp2_with rfl;refine qc (fV x y _) λw1 X1=>?_;rw[HA.o];have⟨bA,bB⟩:=ML X1.ext;have⟨a0,a1,fa⟩:=bO bA;have⟨b0,b1,fb⟩:=bO bB;clear bA bB;go_wp2;go_ret;exact⟨au HR.symm,HX.trans X1.o⟩
 cases hb:A5 (u,v)
 ·refine Fn G hb (show D' (x,y) (u,v)=0 by simp[D',hb]) λHA HB HR=>?_;clear G hb;go_in
  go_wp2_with rfl;refine qc (fV x y _) λw1 hx=>?_;rw[HA.o];have⟨bA,bB⟩:=ML hx.ext;have⟨a0,a1,fa⟩:=bO bA;have⟨b0,b1,fb⟩:=bO bB;have X1:=I hx;clear bA bB;go_wp2_with rfl;refine qc (fV u v _) λw2 hx=>?_;rw[HB.o];clear a0 a1 fa b0 b1 fb;have X2:=I (X1.trans hx);have⟨bA,bB⟩:=ML X2.ext;have⟨a0,a1,fa⟩:=bO bA;have⟨b0,b1,fb⟩:=bO bB;clear bA bB;go_wp2;go_ret;exact⟨au HR.symm,HX.trans X2.o⟩
 have HA:=I G;have HB:=I hb;have⟨x1,x2,y1,y2⟩:=ea G;have⟨u1,u2,v1,v2⟩:=ea hb;have q1:Fy (x*v):=et O O;have q2:Fy (u*y):=et O O;have⟨e1,g1⟩:=bM q1;have⟨e2,g2⟩:=bM q2;have Z:D' (x,y) (u,v)=(if x*v<u*y then -1 else if u*y<x*v then 1 else 0):=by simp[D',G,hb]
 have⟨P,K⟩:=j7 (x*v);have⟨Q,H⟩:=j7 (u*y);rw[<-K,<-H]at Z;rw[<-K]at e1 g1;rw[<-H]at e2 g2;have HR:=I Z;have hP':=K.symm;have hQ':=H.symm;clear G hb Z q1 q2 K H;by_cases h1:P<Q
 ·go_in
  go_wp2_with rfl;refine qc (fV x y _) λw1 hx=>?_;rw[HA.o];have⟨bA,bB⟩:=ML hx.ext;have⟨a0,a1,fa⟩:=bO bA;have⟨b0,b1,fb⟩:=bO bB;have X1:=I hx;clear bA bB;go_wp2_with rfl;refine qc (fV u v _) λw2 hx=>?_;rw[HB.o];clear a0 a1 fa b0 b1 fb;have X2:=I (X1.trans hx);have⟨bA,bB⟩:=ML X2.ext;have⟨a0,a1,fa⟩:=bO bA;have⟨b0,b1,fb⟩:=bO bB;clear bA bB;have qq0:=@F8.grw;exact UR
 by_cases h2:Q<P
 ·have qq0:=@i7;exact VA
 have qq0:=@f8;exact VA
def YA:Go.Shelf.Ren:=⟨fun|6=>335|15=>360|14=>359|28=>377|29=>378|20=>369|21=>370|22=>371|23=>372|24=>373|25=>374|26=>375|27=>376|46=>385|47=>386|48=>387|49=>388|50=>389|57=>392|n=>n,fun|22=>32|24=>80|25=>138|3=>3|39=>118|0=>0|53=>228|55=>233|4=>4|46=>296|45=>295|50=>58|5=>5|9=>9|66=>304|70=>308|76=>310|77=>311|n=>n,fun|n=>n⟩
theorem tj:Go.Proofs.SlLaysF0.n6 prog YA:={
 mixed:=by kernel_rfl
 f6:=⟨Tryz.f335.name,by decide,func335.trans (IR some k8)⟩
 f14:=⟨Tryz.f359.name,by decide,func359.trans (IR some k8)⟩
 f15:=func360.trans (IR some k8)
 f20:=⟨Tryz.f369.name,by decide,func369.trans (IR some k8)⟩
 f21:=⟨Tryz.f370.name,by decide,func370.trans (IR some k8)⟩
 f22:=⟨Tryz.f371.name,by decide,func371.trans (IR some k8)⟩
 f23:=⟨Tryz.f372.name,by decide,func372.trans (IR some k8)⟩
 f24:=⟨Tryz.f373.name,by decide,func373.trans (IR some k8)⟩
 f25:=⟨Tryz.f374.name,by decide,func374.trans (IR some k8)⟩
 f26:=⟨Tryz.f375.name,by decide,func375.trans (IR some k8)⟩
 f27:=⟨Tryz.f376.name,by decide,func376.trans (IR some k8)⟩
 f28:=func377.trans (IR some k8)
 f29:=func378.trans (IR some k8)
 f46:=⟨Tryz.f385.name,by decide,func385.trans (IR some k8)⟩
 f47:=func386.trans (IR some k8)
 f48:=func387.trans (IR some k8)
 f49:=⟨Tryz.f388.name,by decide,func388.trans (IR some k8)⟩
 f50:=⟨Tryz.f389.name,by decide,func389.trans (IR some k8)⟩
 f57:=⟨Tryz.f392.name,by decide,func392.trans (IR some k8)⟩
 t0:=Ii
 a0:=aA
 z0:=Ut
 v0:=Tl
 t3:=O1
 a3:=B2
 z3:=nS
 v3:=SP
 t4:=VO
 a4:=O3
 z4:=Oj
 v4:=Qp
 t5:=Po
 a5:=R'
 z5:=QY
 v5:=M1
 t9:=Me
 a9:=SK
 z9:=q8
 v9:=Qd
 t22:=K7
 a22:=Tryz.isAgg32
 z22:=Tryz.sizeOf32
 v22:=Tryz.zeroValue32
 t25:=Tryz.underlying138
 a25:=Tryz.isAgg138
 z25:=Tryz.sizeOf138
 v25:=Tryz.zeroValue138
 t39:=K1
 a39:=db
 z39:=Us
 v39:=RP
 t45:=Tryz.underlying295
 a45:=Tryz.isAgg295
 z45:=Tryz.sizeOf295
 v45:=Tryz.zeroValue295
 t46:=Tryz.underlying296
 a46:=Tryz.isAgg296
 z46:=Tryz.sizeOf296
 v46:=Tryz.zeroValue296
 t50:=Tryz.underlying58
 a50:=Tryz.isAgg58
 z50:=Tryz.sizeOf58
 v50:=Tryz.zeroValue58
 t53:=E3
 a53:=cB
 z53:=y3
 v53:=S9
 t55:=Tryz.underlying233
 a55:=Tryz.isAgg233
 z55:=Tryz.sizeOf233
 v55:=Tryz.zeroValue233
 t66:=Tryz.underlying304
 a66:=Tryz.isAgg304
 z66:=Tryz.sizeOf304
 v66:=Tryz.zeroValue304
 t70:=Tryz.underlying308
 a70:=Tryz.isAgg308
 z70:=Tryz.sizeOf308
 v70:=Tryz.zeroValue308
 t76:=Tryz.underlying310
 a76:=Tryz.isAgg310
 z76:=Tryz.sizeOf310
 v76:=Tryz.zeroValue310
 t77:=Tryz.underlying311
 a77:=Tryz.isAgg311
 z77:=Tryz.sizeOf311
 v77:=Tryz.zeroValue311 }
abbrev VR:Type:={ r:Int×Int // A5 r=true }
instance:Inhabited VR:=⟨⟨(0,1),by decide⟩⟩
def NT(x:VR):List atY:=[U x.1.1,U x.1.2]
def nT(x:o8):VR:=if h:A5 x=true then⟨x,h⟩ else default
theorem Bc{x:o8}(h:A5 x=true):(nT x).1=x:=by unfold nT;rw[dif_pos h]
def RI(x y:VR):Int:=D' y.1 x.1
theorem RX.grow{w':J}(h:RX w w'):∃(q:Nat) (os:Array Obj),w'=Sort.grow (w.drewN q) os:=by
 obtain⟨hx,hd⟩:=h;obtain⟨Z,Q,K,h4,H⟩:=hx;obtain⟨heap,tape,drawn,os,output⟩:=w;obtain⟨Rf,tape',G,os',output'⟩:=w';simp only at Z Q K h4 H hd;subst Z Q K;refine⟨G-drawn,Rf.extract heap.size Rf.size,?_⟩;have e1:drawn+(G-drawn)=G:=O;have e2:heap++Rf.extract heap.size Rf.size=Rf:=by
  apply Array.ext_getElem?;intro i;by_cases hi:i<heap.size
  ·rw[Array.getElem?_append_left hi,H i hi]
  rw[Array.getElem?_append_right O,Array.getElem?_extract];by_cases hj:i<Rf.size
  ·rw[i7 O];congr 1;omega
  rw[f8 O,Array.getElem?_eq_none O]
 unfold Sort.grow World.drewN;simp only[e1,e2]
theorem nJ:∀(l:o3) (t:Nat),(GW l)[t]?=(l[t/2]?).map λp=>if t % 2=0 then Value.int .i64 p.1 else Value.int .i64 p.2
 | [],t=>by simp[GW]
 | p::l,0=>by simp[GW]
 | p::l,1=>by simp[GW]
 | p::l,t+2=>by
   have e:GW (p::l)=Value.int .i64 p.1::Value.int .i64 p.2::GW l:=by simp[GW]
   rw[e,OX,OX,nJ l t,show(t+2)/2=t/2+1 by omega,OX,show(t+2) % 2=t % 2 by omega]
theorem qA(l:o3):Lp (GW l)=Lp l*2:=by
 induction l with
 | nil=>rfl
 | cons p l ih =>
   have e:GW (p::l)=Value.int .i64 p.1::Value.int .i64 p.2::GW l:=by simp[GW]
   rw[e,mg,mg,mg,ih];omega
theorem vd(d:Array VR):(Sort.flatK NT 2 d).toList=GW (d.toList.map (·.1)):=by
 apply ub;intro t;rw[nJ];by_cases G:t<d.size*2
 ·have H:t/2<d.size:=by omega
  rw[SU,P2 (by rw[nF];exact G),<-getElem!_pos (Sort.flatK NT 2 d) t (by rw[nF];exact G),Sort.get_flatK _ _ _ _ G];rw[sr,SU,P2 H,getElem!_pos d (t/2) H];simp only[tv];rcases Nat.mod_two_eq_zero_or_one t with h|h
  ·rw[h];rfl
  rw[h];rfl
 rw[mq (by rw[S2,nF];omega),mq (by rw[b7,S2];omega)]
 rfl
theorem Xj:Sort.SWO (ltOf RI):=by
 have G:∀x y:VR,ltOf RI x y=!Ny y.1 x.1:=λx y=>by unfold ltOf RI Ny;rw[UP]
 refine⟨λx=>?_,λx y z h k=>?_,λx y z h k=>?_⟩
 ·rw[G];rcases lO x.2 x.2 with h|h<;>rw[h]<;>rfl
 ·rw[G,Zo]at h k⊢;cases hz:Ny z.1 x.1 with
  | false=>rfl
  | true =>
    have H:Ny x.1 y.1=true:=(lO x.2 y.2).resolve_right (by rw[h];simp);have:=oP z.2 x.2 y.2 hz H;rw[k]at this;cases this
 rw[G,Bool.not_eq_false']at h k⊢;exact oP z.2 y.2 x.2 k h
theorem nA(x y:VR)(h:ltOf RI x y=false)(k:ltOf RI y x=false):x=y:=by
 have G:∀x y:VR,ltOf RI x y=!Ny y.1 x.1:=λx y=>by unfold ltOf RI Ny;rw[UP]
 rw[G,Bool.not_eq_false']at h k;exact Subtype.ext (xu x.2 y.2 k h)
theorem MX{l:o3}(G:∀y∈l,A5 y=true):(((l.map nT).toArray.toList.mergeSort λx y=>!(ltOf RI) y x).map (·.1))=Jo l:=by
 have hb:l.map (λx=>(nT x).1)=l:=by
  conv=>rhs;rw[<-List.map_id l]
  exact TL λx hx=>Bc (G x hx)
 refine Fd G ?_ ?_
 ·refine((List.mergeSort_perm _ _).map _).trans ?_;rw[ZS,PX];exact List.Perm.of_eq hb
 rw[List.pairwise_map];have:=List.pairwise_mergeSort (le:=λx y:VR=>!(ltOf RI) y x) (λa b c h k=>by
  simp only[Zo]at h k⊢;exact Xj.ntrans _ _ _ k h) (λa b=>by
  simp only[Bool.or_eq_true,Zo];unfold ltOf RI;rcases lO a.2 b.2 with h|h
  ·left;unfold Ny at h;simpa using h
  right;unfold Ny at h;simpa using h) (l.map nT).toArray.toList
 refine this.imp λ{a b} h=>?_;unfold ltOf RI at h;unfold Ny;exact h
theorem YS(x y:VR)(w:J):
 Calls prog 336 #[.agg (NT x).toArray,.agg (NT y).toArray] w λe w'=>e=atn (U (RI x y))/\RX w w':=by
 obtain⟨⟨Q,K⟩,hx⟩:=x;obtain⟨⟨H,G⟩,Z⟩:=y;have h:=I ((RX.alloc w (SH #[U Q,U K] 80)).trans (RX.alloc _ (SH #[U H,U G] 80)));show Calls prog 336 #[.agg #[U Q,U K],.agg #[U H,U G]] w λe w'=>e=atn (U (D' (H,G) (Q,K)))/\RX w w'
 clear hx Z;go_in
 go_wp2_with rfl;refine i6 (BL H G Q K _) λw1 B0=>?_;go_wp2;go_ret;exact⟨rfl,h.trans B0⟩
theorem qR:Rd prog 336:=cE func336 k8 k8
theorem NW{base g cap:Nat}{l:o3}(h:ZM w base (GT g n cap) l)(hl:∀y∈l,A5 y=true)(hn:n<=1000000):
 Calls prog 335 #[GT g n cap,.func (.func 336) #[] #[]] w λe w' =>
  e=atn (.tuple #[])/\ZM w' base (GT g n cap) (Jo l)/\∀W0:J,D4 W0 w->W0.heap.size<=g->D4 W0 w':=by
 have hlen:=h.rats.hlen;rcases h.2 with⟨H,h0⟩|⟨g',cap',cur,H,hb,hg,h1,h2,hs,ht⟩
 ·cases H
 simp only[mn,Pi,gl,gi]at H;obtain⟨rfl,hnl,rfl⟩:=H;obtain⟨d,hd⟩:∃d:Array VR,d=(l.map nT).toArray:=⟨_,rfl⟩;have Z:d.size=n:=by rw[hd];simp[hlen]
 have hdl:d.toList.map (·.1)=l:=by
  rw[hd,ZS,PX]
  conv=>rhs;rw[<-List.map_id l]
  exact TL λx hx=>Bc (hl x hx)
 have akv:(Sort.flatK NT 2 d).toList=GW l:=by rw[vd,hdl]
 have hH:Sort.HoldsK NT 2 w g 0 d:=by
  intro j K;rw[nF]at K;refine⟨?_,by simp[World.frozen?,hg]⟩;have h3:(cur.toList.take (Lp l*2))[j]?=(GW l)[j]?:=by rw[ht]
  rw[V0 O]at h3;rw[fs,UV w g j cur _ _ hg,<-SU,h3,<-akv,SU,getElem!_pos _ j (by rw[nF];exact K),P2]
  rfl
 have hcmp:CmpLays prog 336 #[] NT 2 RI g 0 d.size w:=λm os dk _ x y =>
  (YS x y _).mono λe w' ⟨H,hw⟩=>⟨H,hw.grow⟩
 have G:=AnyQ.slices_SortFunc_total tj 2 (λ_=>by kernel_rfl) (λ_=>by kernel_rfl) NT (λ_=>rfl) (λx v hv=>by simp[NT]at hv;rcases hv with rfl|rfl<;>rfl) RI Xj 336 #[] g 0 cap d w qR hcmp hH (IO hg) O nA;rw[Z]at G;refine Calls.mono G ?_;rintro e w' ⟨rfl,q,os,rfl⟩;have hsz:Lp ((d.toList.mergeSort λx y=>!(ltOf RI) y x))=n:=by rw[List.length_mergeSort,S2,Z]
 have hfl:(Sort.flatK NT 2 ((d.toList.mergeSort λx y=>!(ltOf RI) y x)).toArray).toList=GW (Jo l):=by
  rw[vd,ZS,hd,MX hl]
 have LW:g<w.heap.size:=IO hg;have hh:(sortWorldK NT 2 w g 0 q ((d.toList.mergeSort λx y=>!(ltOf RI) y x)).toArray os).heap[g]?=some (SH (Sort.putCells id 0 (Sort.flatK NT 2 ((d.toList.mergeSort λx y=>!(ltOf RI) y x)).toArray) cur) 80 (0,0)):=by
  unfold sortWorldK Sort.putRowK;rw[Sort.heap_grow_old _ _ (by simpa using LW)];simp[Sort.putRow,Sort.mapBlock,Sort.ahead,Array.getElem?_modify,hg,Sort.onCells]
 refine⟨rfl,⟨by rw[qA,ju,hlen],.inr ⟨g,cap,_,by rw[ju,hlen],hb,hh,by rw[ju];exact h1,h2,by simp[Sort.putCells,hs],?_⟩⟩,λW0 hx hW=>?_⟩
 ·rw[<-hfl];generalize hF:Sort.flatK NT 2 ((d.toList.mergeSort λx y=>!(ltOf RI) y x)).toArray=F;have hFs:F.size=n*2:=by rw[<-hF,nF];simp[hsz]
  rw[ju,hlen];apply ub;intro j;by_cases K:j<n*2
  ·rw[V0 K,SU,SU];simp[Sort.putCells,K,hFs,show j<cur.size by omega]
  rw[List.getElem?_take_eq_none O,mq (by rw[S2];omega)]
 refine⟨hx.os,hx.tape,hx.output,?_,λk hk=>?_⟩
 ·have:=hx.size;unfold sortWorldK Sort.putRowK;refine bR this ?_;simp[Sort.grow,Sort.putRow,Sort.mapBlock,Sort.ahead]
 have Wi:k<w.heap.size:=C' hk hx.size;unfold sortWorldK Sort.putRowK;rw[Sort.heap_grow_old _ _ (by simpa using Wi)];have:g≠k:=O;rw[<-hx.block k hk];simp[Sort.putRow,Sort.mapBlock,Sort.ahead,Array.getElem?_modify,this]
end
section
variable{w:J}{base g n base' m Gl:Nat}{l X:o3}{x y x' y':Int}{V:o7}{a b:o6}
theorem wL{P:Program}(w:J)(t e Z:TypeId)(ht:P.underlying t=some (.slice e))(hv:∀w,(zeroValue e).run P w=.ok (.agg #[U 0,U 0]) w)(b o n c:Nat)(hn:0<n)
 (hc:∀j,j<n*2->(w.cell? (IM b (o+j))).isSome=true) (hf:∀j,j<n*2->w.frozen? (IM b (o+j))=false) :
 (Builtin.clear_ #[t] Z #[FB (some (IM b o)) n c]).run P w=.ok (.tuple #[]) (w.setCells b o (List.replicate (n*2) (U 0))):=by
 have K:(Builtin.zeroCells #[Value.int .i64 0,Value.int .i64 0] n).toList=List.replicate (n*2) (U 0):=by
  simp only[Builtin.zeroCells];apply Pl
  ·simp
  intro i h1 h2;simp only[Array.toList_map,Array.toList_range,gz,ZD,List.getElem_replicate];have:∀k,k<2->(#[Value.int .i64 0,Value.int .i64 0]:Array atY)[k]! = U 0:=λk hk=>by
   rcases k with _|_|k
   ·rfl
   ·rfl
   omega
  exact this _ (Nat.mod_lt _ FS)
 have G:=run_storeCells_cells (P:=P) b o (List.replicate (n*2) (U 0)) 0 w (by simpa using hc) (by simpa using hf) (by intro v Q;rw[List.eq_of_mem_replicate Q];rfl);simp only[wA]at G;obtain⟨m,rfl⟩:∃m,n=m+1:=⟨n-1,by omega⟩;have H:(Value.agg #[U 0,U 0]).cells=#[Value.int .i64 0,Value.int .i64 0]:=rfl;simp[Builtin.clear_,TG ht,hv,H,K,G]
theorem ZM.IJ{cap:Nat}(h:ZM w base (GT g n cap) l):base<=g/\g<w.heap.size/\(∀j,w.frozen? (IM g j)=false)/\∀k,k<n->w.cell? (IM g (k*2))=some (U (l[k]?.getD (0,0)).1)/\w.cell? (IM g (k*2+1))=some (U (l[k]?.getD (0,0)).2):=by
 rcases h.2 with⟨G,h0⟩|⟨g',cap',cur,G,hb,hg,h1,h2,hs,ht⟩
 ·cases G
 have K3:g'=g:=by simp only[mn,Pi,gl,gi]at G;exact G.1.symm
 subst K3;refine⟨hb,IO hg,λj=>fy w g' j cur _ hg,λk hk=>?_⟩;have⟨xb,xo,x,y,e,FI,K,Z⟩:=h.rats.at hk;simp only[Pi,gl,gi]at e;rw[<-e.1,<-e.2,fs]at K Z;rw[FI];exact⟨K,Z⟩
theorem ZM.zeros{cap:Nat}:∀(m:Nat) {k:Nat} {w:J} {M:o3},k+m<=Lp M->ZM w base (GT g n cap) M->∃M',ZM (w.setCells g (k*2) (List.replicate (m*2) (U 0))) base (GT g n cap) M'/\M'.take k=M.take k/\Lp M'=Lp M
 | 0,k,w,M,_,h=>⟨M,by simpa[World.setCells]using h,rfl,rfl⟩
 | m+1,k,w,M,hk,h=>by
   have⟨M',h1,Z,H⟩:=ZM.zeros m (k:=k+1) (by rw[km];omega) (h.set (k:=k) O 0 0);rw[km]at H;refine⟨M',?_,?_,H⟩
   ·rw[show(m+1)*2=m*2+1+1 by omega,VN,VN];simp only[World.setCells];rw[show k*2+1+1=(k+1)*2 by omega];exact h1
   have G:=IR (List.take k) Z;rw[QA,QA,TW O]at G;rw[G,M5 (m9 _)]
theorem ZM.W4{cap:Nat}{M:o3}(h:ZM w base (GT g n cap) M){k:Nat}(hk:k<=n):ZM w base (GT g k cap) (M.take k):=by
 have hlen:=h.rats.hlen;rcases h.2 with⟨G,h0⟩|⟨g',cap',cur,G,hb,hg,h1,Z,hs,K⟩
 ·cases G
 simp only[mn,Pi,gl,gi]at G;obtain⟨rfl,_,rfl⟩:=G;have H:Lp (M.take k)=k:=by rw[jt];omega
 refine⟨by rw[qA],.inr ⟨g,cap,cur,by rw[H],hb,hg,by omega,Z,hs,?_⟩⟩;rw[H];apply ub;intro j;rw[nJ];by_cases Q:j<k*2
 ·rw[V0 Q,V0 O,<-nJ,<-K,V0 O]
 rw[List.getElem?_take_eq_none O,mq (by rw[jt];omega)]
 rfl
theorem WJ(w:J):(zeroValue 80).run prog w=.ok (.agg #[U 0,U 0]) w:=rfl
theorem ZY(l:o3)(k:Nat):∃x y,l[k]?.getD (0,0)=(x,y):=⟨_,_,rfl⟩
theorem AJ(h:((x == x')&&(y == y'))=false):¬(x,y)=(x',y'):=by
 intro e;simp only[sj]at e;rw[e.1,e.2]at h;simp at h
theorem AI(h:((x == x')&&(y == y'))=true):(x,y)=(x',y'):=by
 simp only[cM,Zf]at h;rw[h.1,h.2]
theorem BT{W0:J}{cap:Nat}(hX:D4 W0 w)(hb:W0.heap.size<=base)(h:ZM w base (GT g n cap) l)(hn:0<n)(hn9:n<=1000000):
 Calls prog 285 #[GT g n cap] w λe w' =>
  (∃m,e=atn (GT g m cap)/\ZM w' base (GT g m cap) (JN l n))/\D4 W0 w':=by
 have⟨y7,y8⟩:=h.rats.ath;refine Op h.rats.hlen h hX (bR hb h.IJ.1) λHL HO HX HBG=>?_;clear h hX;by_cases Ht:n=1
 ·subst Ht;have G:=I (show JN l 1=l by
   rw[oG (k:=0) (by rw[HL.o];decide) rfl (.inl rfl),aP (by rw[HL.o];decide)])
  go_in
  go_wp2;go_ret;exact⟨⟨1,rfl,by rw[G.o];exact HO⟩,HX⟩
 have h2:¬(n:Int)<2:=O
 go_in
 go_wp2
 go_loopg [3] (n-1) (λgk kk wr=>∃k:Nat,e9 (gk+k=n)/\kk=U k/\e9 (0<k)/\e9 (JN l k=l.take k)/\e9 (ZM wr base (GT g n cap) l)/\e9 (D4 W0 wr))
 ·exact⟨1,I O,rfl,I FS,I (oG (k:=0) (by rw[HL.o];exact hn) rfl (.inl rfl)),HO,HX⟩
 rename Nat=>g1;rename J=>wr;obtain⟨k,HK,rfl,HP,HT,HO1,A6⟩:=hrel;by_cases hlt:k<n
 ·obtain⟨m,JS⟩:∃m,k=m+1:=⟨k-1,by have:=HP.o;omega⟩;have⟨x,y,FI⟩:=ZY l k;have⟨x',y',LO⟩:=ZY l m;have⟨c0,c1⟩:=HO1.IJ.2.2.2 k hlt;have⟨d0,d1⟩:=HO1.IJ.2.2.2 m O;rw[FI]at c0 c1;rw[LO]at d0 d1;have LD:=I FI;have MO:=I (show l[k-1]?.getD (0,0)=(x',y')by rw[JS];exact LO);have hmn:m<n:=by omega
  have Wl:¬cap=k:=O;have Jl:=qj ((k:Int)-1) (m:Int);have hw2:wrap64 ((k:Int)-1)=(m:Int):=by unfold wrap64;omega
  have Gn:(k:Int)-1=(m:Int):=O;have Hr:=qj (m:Int) (m:Int);have Gz:wrap64 (m:Int)=(m:Int):=by unfold wrap64;omega
  have r7:=D4.drew wr;have GF:k<Lp l:=by rw[HL.o];exact hlt
  have Hk:=I GF;clear FI LO JS GF;cases B0:(x == x')
  all_goals
   cases F7:(y == y')
  all_goals
   have Ve:=I (eN B0 F7);go_wp2_with rfl
   go_region_held3 (λw'=>w'.cell? (IM g (k*2))=some (U x)/\w'.cell? (IM g (k*2+1))=some (U y)/\w'.cell? (IM g (m*2))=some (U x')/\w'.cell? (IM g (m*2+1))=some (U y')/\D4 wr w')
    (exact⟨r7.o9 c0,r7.o9 c1,r7.o9 d0,r7.o9 d1,r7⟩)
    (fail)
   clear Jl hw2 Gn Hr Gz c0 c1 d0 d1 B0 F7;have FM:=I (HO1.ext r7);have C7:=I (A6.trans r7);clear r7
  iterate 3
   ·have GJ:=I (oG Hk.o HT.o (.inr (by rw[LD.o,MO.o];exact AJ (by rw[Ve.1,Ve.2];rfl))));go_wp2_with rfl;refine gy ?_;exact⟨k+1,I (l8 HK.o),by go_num,I O,GJ,FM,C7⟩
  have Q5:=I (Q7.start HP.o Hk.o HT.o (by rw[LD.o,MO.o];exact AI (by rw[Ve.1,Ve.2];rfl)));have E':k<=n:=O;go_wp2
  go_loopg [3,5] (n-k-1) (λgk kk jj wr=>∃(i j:Nat) (M:o3),e9 (gk+(k+j)=n)/\kk=U i/\jj=U j/\e9 (0<j)/\e9 (Q7 l M i (k+j))/\e9 (ZM wr base (GT g n cap) M)/\e9 (D4 W0 wr))
  ·exact⟨k,1,l,I O,rfl,rfl,I FS,Q5,FM,C7⟩
  obtain⟨i,j,M,HJ,rfl,rfl,HJ0,G,HM,C5⟩:=hrel;have Th:=G.lt;have hi0:=G.pos;by_cases F4:k+j<n
  ·obtain⟨q,hjq⟩:∃q,j=q+1:=⟨j-1,by have:=HJ0.o;omega⟩;have⟨u,v,Ob⟩:=ZY l (k+j);have⟨u',v',Z⟩:=ZY l (k+q);have hh1:=G.hi (k+j) O;have hh2:=G.hi (k+q) O;have⟨c0,c1⟩:=HM.IJ.2.2.2 (k+j) F4;have⟨d0,d1⟩:=HM.IJ.2.2.2 (k+q) O;rw[hh1,Ob,Nat.add_mul]at c0 c1;rw[hh2,Z,Nat.add_mul]at d0 d1;have Tp:=I Ob;have ag7:=I (show l[k+j-1]?.getD (0,0)=(u',v')by rw[hjq,show k+(q+1)-1=k+q by omega];exact Z);have FA:i<n:=by clear c0 c1 d0 d1 Ob Z hh1 hh2;omega
   have hqn:q<n-k:=O;have JK:j<n-k:=O;have Jl:=qj ((j:Int)-1) (q:Int);have hw2:wrap64 ((j:Int)-1)=(q:Int):=by unfold wrap64;omega
   have Gn:(j:Int)-1=(q:Int):=O;have Hr:=qj (q:Int) (q:Int);have Gz:wrap64 (q:Int)=(q:Int):=by unfold wrap64;omega
   have r7:=D4.drew wr;have Hn:k+j<Lp l:=by rw[HL.o];exact F4
   have SX:=I Hn;clear Ob Z hh1 hh2 hjq Hn;cases B0:(u == u')
   all_goals
    cases F7:(v == v')
   all_goals
    have H:=I (eN B0 F7);go_wp2_with rfl
    go_region_held3 (λw'=>w'.cell? (IM g (k*2+j*2))=some (U u)/\w'.cell? (IM g (k*2+j*2+1))=some (U v)/\w'.cell? (IM g (k*2+q*2))=some (U u')/\w'.cell? (IM g (k*2+q*2+1))=some (U v')/\D4 wr w')
     (exact⟨r7.o9 c0,r7.o9 c1,r7.o9 d0,r7.o9 d1,r7⟩)
     (fail)
    have KG:=λ(o:Nat)=>(HM.ext r7).IJ.2.2.1 o
    generalize wr.drew=wd at r7 KG⊢;have c0:=r7.o9 c0;have c1:=r7.o9 c1;clear Jl hw2 Gn Hr Gz d0 d1 B0 F7;have OV:=I (HM.ext r7);have Io:=I (C5.trans r7);clear r7
   iterate 3
    ·have Uz:=I (G.keep SX.o (by rw[Tp.o,ag7.o];exact AJ (by rw[H.1,H.2];rfl)));rw[Tp.o]at Uz;have⟨e0,e1⟩:=OV.IJ.2.2.2 i FA;have Re:=KG (i*2);have QP:=KG (i*2+1);clear KG;have LG:=I (OV.set (k:=i) (by rw[G.len,HL.o];exact FA) u v);have Hh:=I ((Io.store (i*2) HBG.o (U u)).store (i*2+1) HBG.o (U v));go_wp2_with rfl;refine sq ?_;exact⟨i+1,j+1,_,I (l8 HJ.o),by go_num,by go_num,I O,Uz,LG,Hh⟩
   have Uz:=I (G.drop SX.o (by rw[Tp.o,ag7.o];exact AI (by rw[H.1,H.2];rfl)));go_wp2_with rfl;refine sq ?_;exact⟨i,j+1,_,I (l8 HJ.o),rfl,by go_num,I O,Uz,OV,Io⟩
  have hkj:k+j=n:=by have:=G.jl;have:=HL.o;omega
  have FA:i<n:=O;have hci:¬cap=i:=O;have Lo:i<=n:=O;have hML:Lp M=n:=by rw[G.len,HL.o]
  have HML:=I hML;have K6:∀ty,(Builtin.clear_ #[32] ty #[FB (some (IM g (i*2))) (n-i) (cap-i)]).run prog wr=.ok (.tuple #[]) (wr.setCells g (i*2) (List.replicate ((n-i)*2) (U 0))):=λty=>by
   refine wL wr _ 80 ty K7 WJ g (i*2) _ _ O (λt ht=>?_) (λt _=>HM.IJ.2.2.1 _);rcases Nat.mod_two_eq_zero_or_one t with h0|h0
   ·have:=(HM.IJ.2.2.2 (i+t/2) O).1;rw[show(i+t/2)*2=i*2+t by omega]at this;rw[this];rfl
   have:=(HM.IJ.2.2.2 (i+t/2) O).2;rw[show(i+t/2)*2+1=i*2+t by omega]at this;rw[this];rfl
  obtain⟨M',hM',ZP,_⟩:=ZM.zeros (w:=wr) (n-i) (k:=i) O HM.o;refine Fn (show M'.take i=JN l n by rw[ZP,G.lo,hkj]) hM' (iO g HBG.o (List.replicate ((n-i)*2) (U 0)) (i*2) C5) λGJ HMF HXF=>?_;clear ZP hM' hML;go_wp2;go_ret;exact⟨⟨i,rfl,by rw[<-GJ.o];exact HMF.W4 O⟩,HXF⟩
 have E':k=n:=l8 HK.o;have GJ:=I (show JN l n=l by rw[<-E',HT.o,aP (by rw[HL.o,E'];exact m9 _)]);go_wp2;go_ret;exact⟨⟨n,rfl,by rw[GJ.o];exact HO1⟩,A6⟩
theorem qM{p:Int}(h:Lp V=n):MK p V X 1 (n-2)=Gt p V X:=by unfold MK Gt;rw[h]
theorem qP{p:Int}(hl:Lp V=n)(h:ak p V=true):(n:Int)-2+1=((1:Nat):Int)+((n-2:Nat):Int)/\1+(n-2)<=n:=by
 obtain⟨q,_,G,h5,hlen,_,_⟩:=ap h;have:∀q:Fin 6,1<=q.val->2<=cN q.val:=by decide
 have:=this ⟨q,by omega⟩ G;simp only at this;omega
theorem ZM.IA{w':J}{v G:atY}{vs:List atY}(h:ZM w base v l)(K:E8 w base' G vs)(hg:w.grownBy w' G.ownBlock):ZM w' base v l :=
 h.keep λq H=>hg.block q (h.lt q H).2 λe=>aD (show(80:Nat)≠29 by decide) h K q H e.symm
theorem uh{p:Int}{cap:Nat}(h:d6 w a n cap V)(hx:i8 w b m Gl X)(hA:Gt p V X=some l)(J4:0<Lp l):
 Calls prog 286 #[Id p a n cap,FB b m Gl] w λe w'=>(∃v,e=atn v/\ZM w' w v (Jo l))/\D4 w w':=by
 have Z:=I (D4.alloc w (SH #[U p,FB a n cap] 31));have HE:=iS (p:=p) (h.ext Z) (hx.ext Z) 1 (n-2) ((n:Int)-2) (qP h.hlen);rw[qM h.hlen,hA]at HE;have HE:=I HE;have⟨y7,y8⟩:=h.ath;have Pc:2<n:=by
  have h1:=(dS hA).2;have h2:=h.hlen;omega
 have IU:n<=32:=by
  obtain⟨q,_,h1,h5,hlen,_,_⟩:=ap (dY (dS hA).1);have:=bp q h5;have h2:=h.hlen;omega
 refine Fn (VT hA) J4 (show Lp l<=1000000 by have h1:=(dS hA).2;have h2:=h.hlen;omega) λHV G Lw=>?_;clear h hx hA J4;go_in
 go_wp2_with rfl;refine hF HE λw1 v ho B0=>?_;obtain⟨a1,H,c1,rfl,HN⟩:=ho.var;have ho:ZM w1 _ (FB a1 H c1) l:=ho;have Ht:0<H:=by have h1:=HN.o;have h2:=G.o;change (Lp l)=H at h1;omega
 obtain⟨g,rfl,K,_,_⟩:=ho.block Ht;have HS:=I (NW ho HV.o (by have h1:=ho.rats.hlen;have:=Lw.o;omega));have X1:=I B0;clear ho HN;go_wp2_with rfl;refine HS.mono ?_;rintro e w2 ⟨rfl,Is,C9⟩;have FM:=I Is;have X2:=I (Z.trans (C9 _ X1.o K));clear Is C9;go_wp2;go_ret;exact⟨⟨_,rfl,FM.mono j9⟩,X2⟩
theorem BP{p:Int}{cap:Nat}(h:d6 w a n cap V)(hx:i8 w b m Gl X):
 Calls prog 220 #[Id p a n cap,FB b m Gl] w λe w'=>(∃v,e=atn v/\bZ w' w v (Mv p V X))/\D4 w w':=by
 have⟨W,hW⟩:=j7 (w.alloc (SH #[U p,FB a n cap] 31));have hX:D4 w W:=by rw[hW];exact ZL
 have Fp:=I (show W.heap.size=w.heap.size+1 by rw[hW];simp);have k0:W.cell? (IM w 0)=some (U p):=by rw[hW];simp
 have k1:W.cell? (IM w 1)=some (FB a n cap):=by rw[hW];simp
 refine Fn hX (h.ext hX) (hx.ext hX) λHX HI HR=>?_;have⟨y7,y8⟩:=h.ath;have RT:=iS (p:=p) HI.o HR.o 1 (n-2) ((n:Int)-2) (qP h.hlen);rw[qM h.hlen]at RT;have HE:=I RT;have HVL:=I h.hlen;clear h hx hX RT;go_in
 go_upto_region 1 with rfl;rw[<-hW];clear hW;cases hA:Gt p V X with
 | none =>
   have HN:=I (vt hA);rw[hA]at HE;clear hA;go_wp2_with rfl;refine hF HE λw1 v ho B0=>?_;obtain⟨a1,n1,c1,rfl,H⟩:=ho.var;have X1:=I (HX.trans B0);clear ho;go_wp2;go_ret;exact⟨⟨_,rfl,by rw[HN.o];exact bZ.nil _ _⟩,X1⟩
 | some l =>
   rw[hA]at HE;have Z:=I hA;clear hA;go_wp2_with rfl;refine hF HE λw1 v ho B0=>?_;obtain⟨a1,n1,c1,rfl,HN0⟩:=ho.var;have H:e9 (Lp l=n1):=HN0;clear HN0;have HO:e9 (ZM w1 W (FB a1 n1 c1) l):=ho;have X1:=I B0;have c0:=B0.o9 k0;have c1':=B0.o9 k1;clear ho;by_cases hz:n1=0
   ·subst hz;have HN:=I (show Mv p V X=[]by rw[oZ Z.o,Md H.o];rfl);go_wp2;go_ret;exact⟨⟨_,rfl,by rw[HN.o];exact bZ.nil _ _⟩,HX.trans X1.o⟩
   have Mh:((n1:Int) == 0)=false:=t8;have GD:=I (show 0<Lp l by rw[H.o];omega);have X1':=I (X1.trans (D4.alloc w1 (SH #[] 29)));have HEV:=I (uh (p:=p) (HI.ext X1') (HR.ext X1') Z.o GD);have k0':=(D4.alloc w1 (SH #[] 29)).o9 c0;have k1':=(D4.alloc w1 (SH #[] 29)).o9 c1';have SS:=I (E8.Ft w1 W _ rfl X1.size);have IU:n1<=32:=by
    obtain⟨q,_,h1,h5,hlen,_,_⟩:=ap (dY (dS Z).1);have:=bp q h5;have h2:=HVL.o;have h3:=(dS Z).2;have h4:=H.o;omega
   go_wp2_with rfl;refine hF HEV λw2 v2 Is C9=>?_;obtain⟨a2,n2,c2,rfl,Jb⟩:=Is.var;have Pc:n2=n1:=by have h1:=Jb.o;rw[ju]at h1;have:=H.o;omega
   subst Pc;obtain⟨g,rfl,hbg,_,_⟩:=Is.block (k:=0) O;have Q4:=I (BT C9 (m9 _) Is O O);clear Is hbg Jb k0' k1' c0 c1';go_wp2_with rfl;refine hF Q4 λw3 mc Gw C0=>?_;have⟨C,hC⟩:=j7 (JN (Jo l) n2);rw[<-hC]at Gw;refine y5 (show Mv p V X=C.map (λe=>Jf l e n2)by rw[oZ Z.o,hC];unfold Vm ND;rw[H.o]) Gw (HO.ext ((D4.alloc w1 (SH #[] 29)).trans C0)) (SS.ext C0) (X1'.trans C0) Gw.rats.hlen λHLS C8 HOL HOV X3 HCL=>?_;have hmc:mc<=32:=by have h1:=HCL.o;have h2:=qJ (Jo l) n2;rw[<-hC]at h2;omega
   have⟨akH,akF⟩:=Gw.rats.ath;have⟨hlcap,hlmax⟩:=HOL.rats.ath;have MC:=X3.size;clear Gw hC;go_wp2
   go_loopg [7,36] mc (λgk oo ii wr=>∃(k:Nat) (a1':o6) (n1' p1:Nat) (vs:List atY),e9 (gk+k=mc)/\oo=FB a1' n1' p1/\ii=U k/\e9 (E8 wr W (FB a1' n1' p1) vs)/\e9 (bG wr W vs ((C.take k).map λe=>Jf l e n2))/\e9 (ZM wr W (FB a1 n2 c1) l)/\e9 (ZM wr W (GT g mc c2) C)/\e9 (D4 W wr))
   ·exact⟨0,_,_,_,[],I O,rfl,rfl,HOV,I (bG.nil _ _),HOL,I (C8.mono (by have:=X1.size;simp;omega)),X3⟩
   rename Nat=>g1;rename J=>A1;obtain⟨k,a3,n3,p3,vs,HK,rfl,rfl,HV,IE,HOL1,HOC1,IX⟩:=hrel;have Nd:=IX.size;by_cases hlt:k<mc
   ·have⟨G,ey,FI⟩:=ZY C k;have⟨Fo,FQ⟩:=HOC1.IJ.2.2.2 k hlt;rw[FI]at Fo FQ;have LD:=I (show C.take (k+1)=C.take k++[(G,ey)]by rw[dO (by rw[HCL.o];exact hlt),FI]);clear FI;refine Fn (show Lp vs=k by rw[IE.len,b7,jt,HCL.o];omega) (D4.alloc A1 (SH #[U G,U ey] 80)) (y9.Ft (A1.alloc (SH #[U G,U ey] 80)) (A1+1) (A1+1) j9 j9) λNC Sa HO1=>?_;go_wp2
    go_loopg [10,43] n2 (λgk row ii wr=>∃(j:Nat) (a4:o6) (n4 p4:Nat),e9 (gk+j=n2)/\row=FB a4 n4 p4/\ii=U j/\e9 (y9 wr (A1+1) (FB a4 n4 p4) (Jf l (G,ey) j))/\e9 (D4 (A1.alloc (SH #[U G,U ey] 80)) wr))
    ·exact I1
    obtain⟨j,a4,n4,p4,HJ,rfl,rfl,HOJ,R'⟩:=hrel;have hszj:A1.heap.size+1<=wr.heap.size:=by have:=R'.size;simpa using this
    by_cases JK:j<n2
    ·have⟨yb,yo,yx,yy,hye,Rt,JB,F7⟩:=(HOL1.ext (Sa.trans R')).rats.at JK;subst hye;have ce0:wr.cell? (IM A1 0)=some (U G):=R'.o9 j9;have ce1:wr.cell? (IM A1 1)=some (U ey):=R'.o9 j9;have hX2:=D4.alloc wr (SH #[U yx,U yy] 80);have ce0':=hX2.o9 ce0;have ce1':=hX2.o9 ce1;have C7:=I hX2;have⟨K,hK⟩:=j7 (D' (yx,yy) (G,ey));have MR:=I (show D' (l[j]?.getD (0,0)) (G,ey)=K by rw[Rt,hK]);have Jz:=gQ yx yy G ey (wr.alloc (SH #[U yx,U yy] 80));rw[<-hK]at Jz;have Jz:=I Jz;clear hX2 Rt hK;by_cases Iy:K<0
     ·have Nr:=I (oX (l:=l) (e:=(G,ey)) (k:=j) (by rw[MR.o];exact Iy));have hng:¬K≥0:=by omega
      go_wp2_with rfl;refine qc Jz λw4 E4=>?_;have Fj:=I ((HOJ.ext C7).ext E4);have Hh:=I ((R'.trans C7).trans E4);go_wp2_with rfl;refine sq ?_;exact⟨j+1,a4,n4,p4,I (l8 HJ.o),rfl,by go_num,I (by rw[Nr.o];exact Fj),Hh⟩
     have Wx:e9 (Jf l (G,ey) (j+1)=Jf l (G,ey) j++[(j:Int)+1]):=(oY (l:=l) (e:=(G,ey)) (k:=j) (by rw[MR.o];exact Iy)).trans (by norm_cast);have hng:K≥0:=O;have Gq:=I (np l (G,ey) j);go_wp2_with rfl;refine qc Jz λw4 E4=>?_;have Fj:=I ((HOJ.ext C7).ext E4);have Hh:=I ((R'.trans C7).trans E4);have MD:=Hh.size
     go_wp2_with (first
      | (at_builtin;refine bK rfl _ _ rfl (A1+1) (FB a4 n4 p4) _ rfl (Fj.ext ZL) _ 1 _ [(j:Int)+1] rfl (G3 j9) (l8 Gq.o) (by simp at MD;simp;omega) ?_;intro v6 w6 ho hg r';obtain⟨a6,n6,p6,rfl,Jy⟩:=ho.var;have Gp:=I ho;have X6:=I (aj (Hh.trans ZL) hg (λq hq=>by have:=(Fj.lt q hq).1;simp;omega));clear ho hg r'))
     refine sq ?_;exact⟨j+1,a6,n6,p6,I (l8 HJ.o),rfl,by go_num,I (by rw[Wx.o];exact Gp),X6⟩
    have Nh:j=n2:=l8 HJ.o;subst Nh;have P8:=I (Sa.trans R')
    go_wp2_with (first
     | (at_builtin
        refine fd rfl _ _ rfl W (FB a3 n3 p3) vs rfl ((HV.ext P8).ext ZL) _ _ 1 rfl E5 rfl (l8 NC.o) t8 ?_;intro v6 w6 ho hg r';obtain⟨a6,n6,p6,rfl,Jy⟩:=ho.var;have Gp:=I ho;have Qf:=I ((HOL1.ext (P8.trans ZL)).IA ((HV.ext P8).ext ZL) hg);have WC:=I ((HOC1.ext (P8.trans ZL)).IA ((HV.ext P8).ext ZL) hg);have Ri:=I (((IE.snoc P8.o (HOJ.mono O) O).ext ZL).IA ((HV.ext P8).ext ZL) hg);have X6:=I (aj ((IX.trans P8).trans ZL) hg (λq hq=>(HV.lt q hq).1));clear ho hg r'))
    refine gy ?_;exact⟨k+1,a6,n6,p6,_,I (l8 HK.o),rfl,by go_num,Gp,I (by rw[LD.o,rN];exact Ri),Qf,WC,X6⟩
   have E':k=mc:=l8 HK.o;subst E';have HF:e9 (C.take k=C):=aP (by rw[HCL.o];exact m9 _);go_wp2;go_ret;exact⟨⟨_,rfl,by rw[HLS.o];refine bZ.mono' ⟨vs,HV,?_⟩ (l8 Fp.o);have:=IE.o;rwa [HF.o]at this⟩,HX.trans IX.o⟩
theorem i8.Uc{b cap:Nat}(h:i8 w (some (IM b 0)) n cap l){k:Nat}(hk:k<=n):i8 w (if cap=k then some (IM b 0) else some (IM b (k*2))) (n-k) (cap-k) (l.drop k):=by
 have hc:=h.y7;split
 ·exact⟨by rw[C3,h.hlen],by omega,by have:=h.y8;omega,λj H=>absurd H O⟩
 refine⟨by rw[C3,h.hlen],by omega,by have:=h.y8;omega,λj H=>⟨b,k*2,rfl,λi hi=>?_⟩⟩;have⟨b',off',e,G⟩:=h.cell (j+k) O;obtain⟨rfl,rfl⟩:=er e;have:=G (k+i) O;rw[QL,show k*2+i*2=0+(k+i)*2 by omega];exact this
theorem Ln(l:o3)(k:Nat):∃x y,l[k]?.getD (0,0)=(x,y):=⟨_,_,rfl⟩
theorem uE{p:Int}{cap:Nat}(h:d6 w a n cap V)(hx:i8 w b m Gl X):
 Calls prog 348 #[Id p a n cap,FB b m Gl] w λe w'=>(∃v,e=atn v/\ZM w' w v (Jo ((Gt p V X).getD [])))/\D4 w w':=by
 have HX:=I (D4.alloc w (SH #[.int .i64 p,FB a n cap] 31));have HE:=I (nQ (p:=p) (h.ext HX) (hx.ext HX));have La:=I (show((Gt p V X).getD []).length<=1000 by
  cases hA:Gt p V X with
  | none=>simp
  | some l =>
    obtain⟨q,_,h1,h5,hlen,_,_⟩:=ap (dY (dS hA).1);have:=bp q h5;have h3:=(dS hA).2;simp only[NE];omega)
 have⟨l,hl⟩:=j7 ((Gt p V X).getD []);rw[<-hl]at HE La⊢;clear h hx hl;go_in
 go_wp2_with rfl;refine PP HE λw1 v ho B0=>?_;obtain⟨la,n1,c1,rfl,HN1⟩:=ho.var;have HL:=I ho.rats.hlen;have GS:=I ho.rats;have Ht:n1<=1000:=by have:=HL.o;have:=La.o;omega
 have hlc:=ho.rats.y7;have NK:=ho.rats.y8;have X1:=I (HX.trans B0);have SS:=I (ZM.UE w1 w1 _ rfl (m9 _));clear ho B0 HN1;go_wp2
 go_loopg [7,8] n1 (λgk oo ii wr=>∃(k g p1:Nat),e9 (gk+k=n1)/\oo=FB (some ⟨g,0,none⟩) k p1/\ii=.int .i64 (k:Int)/\e9 (ZM wr w1 (FB (some ⟨g,0,none⟩) k p1) (I3 l k))/\e9 (D4 w1 wr))
 ·exact⟨0,_,_,I O,rfl,rfl,SS,I ZL⟩
 rename Nat=>g1;rename J=>A1;obtain⟨k,g,p1,aa,rfl,rfl,HO1,A6⟩:=hrel;have hpc:=HO1.rats.y7;have hpm:=HO1.rats.y8;by_cases hlt:k<n1
 ·obtain⟨ab,ao,x,y,rfl,FI,ca0,ca1⟩:=GS.at hlt;have LD:=I FI;clear FI;go_wp2
  go_loopg [9] k (λgk tt wr=>∃(j:Nat),e9 (gk=j)/\e9 (j<=k)/\tt=.int .i64 (j:Int)/\e9 (ZM wr w1 (FB (some ⟨g,0,none⟩) k p1) (I3 l k))/\e9 (D4 w1 wr)/\e9 (Kh (x,y) (I3 l k) k=Kh (x,y) (I3 l k) j))
  ·exact⟨k,I rfl,I (m9 _),rfl,HO1,A6,I rfl⟩
  obtain⟨j,Ly,HJ,rfl,FM,C7,HP⟩:=hrel;have hjk:=HJ.o;have G:=D4.drew wr;by_cases hj0:j=0;rotate_left;obtain⟨q,hjq⟩:∃q,j=q+1:=⟨j-1,by omega⟩;have⟨u,v,Ob⟩:=Ln (I3 l k) q;have⟨xb2,xo2,u2,v2,US,TR,cb0,cb1⟩:=FM.rats.at (k:=q) O;simp only[Pi,gl,gi]at US;obtain⟨Mh,KZ⟩:=US;subst Mh KZ;rw[Ob]at TR;simp only[sj]at TR;obtain⟨rfl,rfl⟩:=TR;rw[fs]at cb0 cb1;have aan:=C7.o9 ca0;have aam:=C7.o9 ca1;have hjg:0<j:=O
  have hqk:q<k:=O;have HK:=I hjq;have Tp:=I Ob;have Jl:=qj ((j:Int)-1) (q:Int);have hw2:wrap64 ((j:Int)-1)=(q:Int):=by unfold wrap64;omega
  have Gn:(j:Int)-1=(q:Int):=O;have Hr:=qj (q:Int) (q:Int);have Gz:wrap64 (q:Int)=(q:Int):=by unfold wrap64;omega
  have⟨K,hK⟩:=j7 (D' (u,v) (x,y));have MR:=I hK;clear Ob hjq hK G hj0;by_cases Iy:K<0
  ·skip
   have G:=D4.drew wr;have Fu:=G;have r8:=I (λ(w':J) (h:D4 wr w')=>(an (h.o9 cb0) (an (h.o9 cb1) (an (h.o9 aan) (an (h.o9 aam) h)))));go_wp2_with rfl
   go_region_held3 (λw'=>w'.cell? ⟨g,q*2,none⟩=some (.int .i64 u)/\w'.cell? ⟨g,q*2+1,none⟩=some (.int .i64 v)/\w'.cell? ⟨ab,ao+k*2,none⟩=some (.int .i64 x)/\w'.cell? ⟨ab,ao+k*2+1,none⟩=some (.int .i64 y)/\D4 wr w')
    (with_reducible exact r8.o _ G)
    (first
      | ((with_reducible refine(eM _ _ _ _ _).mono ?_)
         rw[<-MR.o];rintro e H ⟨rfl,B7⟩;have G:D4 wr H:=G.trans B7;have UK:=G.size))
   clear Fu;clear Jl hw2 Gn Hr Gz cb0 cb1 aan aam;have Gn:(j:Int)-1=(q:Int):=l8 HK.o;have hw2:wrap64 ((j:Int)-1)=(q:Int):=by have:=HK.o;unfold wrap64;omega
   go_wp2_with rfl;clear hw2 Gn
   go_roundg (gk-1)
   case measure=>have:=Ly.o;exact ck
   exact⟨q,I (by have:=Ly.o;have:=HK.o;omega),I O,by go_num,I (FM.ext G),I (C7.trans G),I (by rw[HP.o,HK.o,uz TD])⟩
  focus
   have G:=D4.drew wr;have Fu:=G;have r8:=I (λ(w':J) (h:D4 wr w')=>(an (h.o9 cb0) (an (h.o9 cb1) (an (h.o9 aan) (an (h.o9 aam) h)))));go_wp2_with rfl
   go_region_held3 (λw'=>w'.cell? ⟨g,q*2,none⟩=some (.int .i64 u)/\w'.cell? ⟨g,q*2+1,none⟩=some (.int .i64 v)/\w'.cell? ⟨ab,ao+k*2,none⟩=some (.int .i64 x)/\w'.cell? ⟨ab,ao+k*2+1,none⟩=some (.int .i64 y)/\D4 wr w')
    (with_reducible exact r8.o _ G)
    (first
      | ((with_reducible refine(eM _ _ _ _ _).mono ?_)
         rw[<-MR.o];rintro e H ⟨rfl,B7⟩;have G:D4 wr H:=G.trans B7;have UK:=G.size))
   clear Fu;clear Jl hw2 Gn Hr Gz cb0 cb1 aan aam;have HPJ:=I (show Kh (x,y) (I3 l k) k=j by rw[HP.o,HK.o,pe (by rw[Tp.o,<-MR.o];omega)]);clear hqk
  rotate_left
  focus
   have HPJ:=I (show Kh (x,y) (I3 l k) k=j by rw[HP.o,hj0];rfl);have hjg:¬0<j:=O;clear hj0;go_wp2_with rfl;refine k6 (S:=(λw'=>D4 wr w')) k8 ?_ (λr9=>?_)
   ·exact G
   refine ta ⟨?_⟩;refine tk 14 ?_;refine ST k8 ?_ _;have⟨H,Gz⟩:=j7 wr.drew;rw[<-Gz]at G r9⊢;clear Gz r9
  all_goals
   have SR:=I (FM.ext G);have Xd:=I (C7.trans G);have LW:=(SR.lt g rfl).2;have JC:=(SR.lt g rfl).1;have hs15:=Xd.size;have Hi:=I (nZ l k);have H7:=I (show(I3 l k).take j++[(x,y)]++(I3 l k).drop j=I3 l (k+1)by
    rw[I3];unfold Sn;rw[LD.o,Hi.o,HPJ.o,vl];rfl)
   clear G hjg
   go_wp2_with (first
    | (at_builtin
       (have T1:=(ZM.UE H H _ rfl (m9 _))
        have T2:=((SR.ext (D4.alloc H (SH #[] 80))).rats.take hjk);refine cH rfl _ _ rfl H (FB (some ⟨H,0,none⟩) 0 0) [] rfl T1 _ j p1 _ rfl T2 t8 j9 ?_;intro v2 w6 ho hg r';rw[Nl]at ho;obtain⟨a2,n2,c2,rfl,Jb⟩:=ho.var;have HA:=I ho;have HOe:=I ((SR.ext (D4.alloc H (SH #[] 80))).keep λq Z=>hg.block q ((SR.ext (D4.alloc H (SH #[] 80))).lt q Z).2 λe=>by have h1:=iv (show some H.heap.size=some q from e.symm);have h2:=iv (show some g=some q from Z);omega);have X6:=I (aj (Xd.trans (D4.alloc H (SH #[] 80))) hg (λq Z=>by have:=iv (show some H.heap.size=some q from Z);omega));have hs6:H.heap.size<=w6.heap.size:=bR j9 hg.size;have aan:=X6.o9 ca0;have aam:=X6.o9 ca1;clear ho hg r' T1 T2))
    | (at_builtin
       (have T1:=HA.ext (D4.alloc w6 (SH #[.int .i64 x,.int .i64 y] 80))
        have T2:=i8.one w6 x y 80;refine cH rfl _ _ rfl H (FB a2 n2 c2) ((I3 l k).take j) rfl T1 _ 1 1 [(x,y)] rfl T2 (by have:=Hi.o;simp;omega) t8 ?_;intro v3 w7 ho hg r';obtain⟨a3,n3,c3,rfl,NB⟩:=ho.var;have HB:=I ho;have HOf:=I ((HOe.ext (D4.alloc w6 (SH #[.int .i64 x,.int .i64 y] 80))).keep λq Z=>hg.block q ((HOe.ext (D4.alloc w6 (SH #[.int .i64 x,.int .i64 y] 80))).lt q Z).2 λe=>by have h1:=(HA.lt q e.symm).1;have h2:=iv (show some g=some q from Z);omega);have X7:=I (aj (X6.trans (D4.alloc w6 (SH #[.int .i64 x,.int .i64 y] 80))) hg (λq Z=>by have:=(HA.lt q Z).1;omega));have Tg:H.heap.size<=w7.heap.size:=bR t8 hg.size;clear ho hg r' T1 T2))
    | (at_builtin
       (have T1:=HB.o
        have T2:=HOf.rats.Uc hjk;refine cH rfl _ _ rfl H (FB a3 n3 c3) ((I3 l k).take j++[(x,y)]) rfl T1 _ (k-j) (p1-j) _ rfl T2 (by have:=Hi.o;simp;omega) Tg ?_;intro v4 w8 ho hg r';obtain⟨a4,n4,c4,rfl,HN4⟩:=ho.var;have HD:=I ho;have X8:=I (aj X7.o hg (λq Z=>by have:=(HB.lt q Z).1;omega))
        clear ho hg r' T1 T2)))
   all_goals
    have HD':=I (show ZM w8 H (FB a4 n4 c4) (I3 l (k+1))by have:=HD.o;rwa [H7.o]at this);have Qq:n4=k+1:=by have:=HD'.rats.hlen;rw[nZ]at this;omega
    obtain⟨g4,hg4,_,_,_⟩:=HD'.block (k:=0) O;subst hg4 Qq;have HK:=aa;refine gy ?_;exact⟨k+1,g4,c4,I (l8 aa.o),rfl,by go_num,I (HD'.mono hs15),X8⟩
 have E':k=n1:=l8 aa.o;subst E';go_wp2;go_ret;exact⟨⟨_,rfl,by unfold Jo;rw[HL.o];exact HO1.mono (l8 X1.size)⟩,X1.trans A6.o⟩
theorem ZM.agF{w':J}{v G:atY}{vs:List atY}(h:ZM w base v l)(K:E8 w base' G vs)(hg:w.grownBy w' G.ownBlock):ZM w' base v l :=
 h.keep λq H=>hg.block q (h.lt q H).2 λe=>aD (show(80:Nat)≠29 by decide) h K q H e.symm
theorem Yf(h:((x == x')&&(y == y'))=false):¬(x,y)=(x',y'):=by
 intro e;simp only[sj]at e;rw[e.1,e.2]at h;simp at h
theorem Yg(h:((x == x')&&(y == y'))=true):(x,y)=(x',y'):=by
 simp only[cM,Zf]at h;rw[h.1,h.2]
theorem CF{p:Int}{cap:Nat}(h:d6 w a n cap V)(hx:i8 w b m Gl X):
 Calls prog 324 #[Id p a n cap,FB b m Gl] w λe w'=>(∃v,e=atn v/\bZ w' w v (Mv p V X))/\D4 w w':=by
 have⟨W,hW⟩:=j7 (w.alloc (SH #[U p,FB a n cap] 31));have hX:D4 w W:=by rw[hW];exact ZL
 have Fp:=I (show W.heap.size=w.heap.size+1 by rw[hW];simp);have k0:W.cell? (IM w 0)=some (U p):=by rw[hW];simp
 have k1:W.cell? (IM w 1)=some (FB a n cap):=by rw[hW];simp
 refine kv k0 k1 hX (h.ext hX) (hx.ext hX) λK0 K1 HX HI HR=>?_;have⟨y7,y8⟩:=h.ath;have HVL:=I h.hlen;have TN:=D4.alloc W (SH #[] 29);have RT:=uE (p:=p) (HI.ext TN) (HR.ext TN);have⟨l,Vb⟩:=Ok ((Gt p V X).getD []);rw[<-Vb.o]at RT;refine Fn RT (show Mv p V X=ND l (Lp l) by unfold Mv Vm;rw[<-Vb.o]) (E8.Ft W W _ rfl (m9 _)) λHE HLS SS=>?_;have k0':=TN.o9 k0;have k1':=TN.o9 k1;have P8:=I TN;clear h hx hX RT TN k0 k1;go_in
 go_upto_region 1 with rfl;rw[<-hW];clear hW;go_wp2_with rfl;refine hF HE λw2 v ho C9=>?_;obtain⟨aa,G,ca,rfl,HN⟩:=ho.var;refine Op (show Lp l=G by have:=HN.o;rwa [ju]at this) (show ZM w2 W (FB aa G ca) (Jo l)from ho.mono j9) (SS.ext C9) (P8.trans C9) λU8 HOA HOV X2=>?_
 have HNV:=I (show 0<G->Gt p V X=some l/\ak p V=true/\G=n-2/\2<n/\n<=32 by
  intro h0;have h1:=Vb.o;have h2:=U8.o;cases hA:Gt p V X with
  | none=>rw[hA]at h1;rw[h1]at h2;simp at h2;omega
  | some r =>
    rw[hA]at h1;simp only[NE]at h1;subst h1;have h3:=dS hA;obtain⟨q,_,h4,h5,hlen,_,_⟩:=ap (dY h3.1);have:=bp q h5;have h6:=HVL.o;exact⟨rfl,dY h3.1,by omega,by omega,by omega⟩)
 have⟨hac,ham⟩:=ho.rats.ath;have hna9:G<=32:=by
  rcases Nat.eq_zero_or_pos G with h0|h0
  ·omega
  have:=HNV.o h0;omega
 clear ho HN k0' k1';go_wp2
 go_loopg [5,7] G (λgk oo ii wr=>∃(k:Nat) (a3:o6) (n3 p3:Nat) (vs:List atY),e9 (gk+k=G)/\oo=FB a3 n3 p3/\ii=U k/\e9 (E8 wr W (FB a3 n3 p3) vs)/\e9 (bG wr W vs (ND l k))/\e9 (ZM wr W (FB aa G ca) (Jo l))/\e9 (D4 W wr))
 ·exact⟨0,_,_,_,[],I O,rfl,rfl,HOV,I (bG.nil _ _),HOA,X2⟩
 rename Nat=>g1;rename J=>A1;obtain⟨k,a3,n3,p3,vs,HK,rfl,rfl,HV,IE,Ns,IX⟩:=hrel;have Nd:=IX.size;by_cases hlt:k<G
 ·obtain⟨ga,UR,_,_,_⟩:=Ns.block hlt;have⟨Z,ey,FI⟩:=Ln (Jo l) k;have LD:=I FI;obtain⟨xb,xo,ex1,ey1,rfl,TL,Fo,FQ⟩:=Ns.rats.at hlt;rw[FI]at TL;simp only[sj]at TL;obtain⟨rfl,rfl⟩:=TL;obtain⟨rfl,rfl⟩:=er UR;clear UR;rw[fs]at Fo FQ;have⟨hAll,hGO,UO,Pc,IU⟩:=HNV.o O;refine Op hAll hGO (show Lp vs<=k by rw[IE.len];exact ym _ _) UO λS2 HGO NC L9=>?_;clear FI hAll hGO UO;have r7:=D4.drew A1;by_cases MI:k=0;rotate_left;obtain⟨q,Vy⟩:∃q,k=q+1:=⟨k-1,by omega⟩;have⟨x',y',LO⟩:=Ln (Jo l) q;have⟨xb2,xo2,u2,v2,US,TR,cb0,cb1⟩:=Ns.rats.at (k:=q) O;have⟨Mh,KZ⟩:=er US;clear US;subst Mh KZ;rw[LO]at TR;simp only[sj]at TR;obtain⟨rfl,rfl⟩:=TR;rw[fs]at cb0 cb1;have hkg:0<k:=by omega
  have hqn:q<G:=O;have HKG:=I hkg;have MO:=I (show(Jo l)[k-1]?.getD (0,0)=(x',y')by rw[Vy];exact LO);have Jl:=qj ((k:Int)-1) (q:Int);have hw2:wrap64 ((k:Int)-1)=(q:Int):=by unfold wrap64;omega
  have Gn:(k:Int)-1=(q:Int):=O;have Hr:=qj (q:Int) (q:Int);have Gz:wrap64 (q:Int)=(q:Int):=by unfold wrap64;omega
  clear LO Vy MI
  focus
   cases B0:(Z == x')
   all_goals
    cases F7:(ey == y')
  rotate_left 3
  ·have Nr:=I (DR (l:=l) HKG.o (by rw[LD.o,MO.o];exact Yg (by rw[B0,F7];rfl)));go_wp2_with rfl
   go_region_held3 (λw'=>w'.cell? (IM xb (k*2))=some (U Z)/\w'.cell? (IM xb (k*2+1))=some (U ey)/\w'.cell? (IM xb (q*2))=some (U x')/\w'.cell? (IM xb (q*2+1))=some (U y')/\D4 A1 w')
    (exact⟨r7.o9 Fo,r7.o9 FQ,r7.o9 cb0,r7.o9 cb1,r7⟩)
    (fail)
   refine Op (HV.ext r7) (IE.ext r7) (Ns.ext r7) (IX.trans r7) λHV2 Ky Lb C7=>?_;clear Jl hw2 Gn Hr Gz;go_wp2_with rfl;refine gy ?_;exact⟨k+1,a3,n3,p3,vs,I (l8 HK.o),rfl,by go_num,HV2,I (by rw[Nr.o];exact Ky),Lb,C7⟩
  focus
   have Wx:=I (vu (l:=l) (k:=k) O);rw[LD.o,U8.o]at Wx;have hkg:¬0<k:=O;clear MI;go_wp2_with rfl;refine k6 (S:=(λw'=>D4 A1 w')) k8 ?_ (λr9=>?_)
   ·exact r7
   refine ta ⟨?_⟩;refine ST k8 ?_ _;generalize A1.drew=wd at r7 r9⊢;clear r9 hkg
  rotate_left
  iterate 3
   focus
    have Wx:=I (vu (l:=l) (k:=k) (λh=>Yf (x:=Z) (y:=ey) (x':=x') (y':=y') (by rw[B0,F7];rfl) ((LD.symm.trans h.2).trans MO)));rw[LD.o,U8.o]at Wx;go_wp2_with rfl
    go_region_held3 (λw'=>w'.cell? (IM xb (k*2))=some (U Z)/\w'.cell? (IM xb (k*2+1))=some (U ey)/\w'.cell? (IM xb (q*2))=some (U x')/\w'.cell? (IM xb (q*2+1))=some (U y')/\D4 A1 w')
     (exact⟨r7.o9 Fo,r7.o9 FQ,r7.o9 cb0,r7.o9 cb1,r7⟩)
     (fail)
    clear Jl hw2 Gn Hr Gz cb0 cb1;generalize A1.drew=wd at r7⊢;clear hkg B0 F7 hqn
   rotate_left
  all_goals
   refine Op (IX.trans r7) (HV.ext r7) (IE.ext r7) (Ns.ext r7) λWv HVd HRd HCd=>?_;have hszd:=Wv.size;have Gh:=I (y9.Ft wd wd _ rfl (m9 _));clear r7 Fo FQ;go_wp2
   go_loopg [8,9] G (λgk row ii wr=>∃(j s:Nat) (a4:o6) (n4 p4:Nat),e9 (gk+j=G)/\e9 (s=1+j)/\row=FB a4 n4 p4/\ii=U s/\e9 (y9 wr wd (FB a4 n4 p4) (Jf l (Z,ey) j))/\e9 (D4 wd wr))
   ·exact⟨0,1,_,_,_,I O,I rfl,rfl,rfl,Gh,I ZL⟩
   obtain⟨j,s,a4,n4,p4,HJ,HS,rfl,rfl,HOJ,R'⟩:=hrel;have hszj:=R'.size;have c0:=(Wv.trans R').o9 K0.o;have c1:=(Wv.trans R').o9 K1.o;have J2:1<=s:=l8 HS.o;by_cases F4:s+1<n
   ·have JK:j<G:=by have:=HS.o;have:=L9.o;omega
    have Iu:=tC (p:=p) (HI.ext (Wv.trans R')) (HR.ext (Wv.trans R')) HGO.o (s:=s) O;have⟨u,v,Ob⟩:=Ln l j;have hex:He V X s=some (u,v):=by
     have h1:=S2.o;rw[mB (dS h1).1]at h1;have h2:=iF h1 j (by have:=HVL.o;have:=L9.o;omega);rw[Ob]at h2;rw[HS.o];exact h2
    rw[hex]at Iu;have Iu:=I Iu;have Tp:=I Ob;clear Ob hex;go_wp2_with rfl;refine qc Iu λw3 C0=>?_;have⟨w4,Hr⟩:=j7 (w3.alloc (SH #[U u,U v] 80));have E4:D4 w3 w4:=by rw[Hr];exact ZL
    have d0:w4.cell? (IM w3 0)=some (U u):=by rw[Hr];simp
    have d1:w4.cell? (IM w3 1)=some (U v):=by rw[Hr];simp
    have agY:=I ((R'.trans C0).trans E4);have HOJ4:=I ((HOJ.ext C0).ext E4);have⟨yb,yo,ex1,ey1,LX,TL,f0,f1⟩:=(HCd.ext agY).rats.at hlt;rw[LD.o]at TL;simp only[sj]at TL;obtain⟨rfl,rfl⟩:=TL;obtain⟨rfl,rfl⟩:=er LX;clear LX;rw[fs]at f0 f1;have⟨K,MR⟩:=Ok (D' (u,v) (Z,ey));clear E4 c0 c1;go_upto_region 12 with rfl;rw[<-Hr];clear Hr;by_cases Iy:K<0
    ·have Nr:=I (oX (l:=l) (e:=(Z,ey)) (k:=j) TD);have hng:¬K≥0:=by omega
     have r7:=D4.drew w4;have Fu:=r7;have r8:=I (λ(w':J) (h:D4 w4 w')=>(an (h.o9 d0) (an (h.o9 d1) (an (h.o9 f0) (an (h.o9 f1) h)))))
     go_region_held3 (λw'=>w'.cell? (IM w3 0)=some (U u)/\w'.cell? (IM w3 1)=some (U v)/\w'.cell? (IM xb (k*2))=some (U Z)/\w'.cell? (IM xb (k*2+1))=some (U ey)/\D4 w4 w')
      (with_reducible exact r8.o _ r7)
      (first
        | ((with_reducible refine(eM _ _ _ _ _).mono ?_)
           rw[<-MR.o];rintro e w5 ⟨rfl,B7⟩;have r7:D4 w4 w5:=r7.trans B7;have UK:=r7.size))
     clear Fu;have Fj:=I (HOJ4.ext r7);have Hh:=I (agY.trans r7);clear d0 d1 f0 f1;go_wp2_with rfl;refine sq ?_;exact⟨j+1,s+1,a4,n4,p4,I (l8 HJ.o),I (l8 HS.o),rfl,by go_num,I (by rw[Nr.o];exact Fj),Hh⟩
    have HTP:e9 (Jf l (Z,ey) (j+1)=Jf l (Z,ey) j++[(s:Int)]):=(oY (l:=l) (e:=(Z,ey)) (k:=j) TD).trans (by rw[HS.o,RY 1 j]);have hng:K≥0:=O;have Gq:=I (np l (Z,ey) j);have r7:=D4.drew w4;have Fu:=r7;have r8:=I (λ(w':J) (h:D4 w4 w')=>(an (h.o9 d0) (an (h.o9 d1) (an (h.o9 f0) (an (h.o9 f1) h)))))
    go_region_held3 (λw'=>w'.cell? (IM w3 0)=some (U u)/\w'.cell? (IM w3 1)=some (U v)/\w'.cell? (IM xb (k*2))=some (U Z)/\w'.cell? (IM xb (k*2+1))=some (U ey)/\D4 w4 w')
     (with_reducible exact r8.o _ r7)
     (first
       | ((with_reducible refine(eM _ _ _ _ _).mono ?_)
          rw[<-MR.o];rintro e w5 ⟨rfl,B7⟩;have r7:D4 w4 w5:=r7.trans B7;have UK:=r7.size))
    clear Fu;have Fj:=I (HOJ4.ext r7);have Hh:=I (agY.trans r7);have MD:=Hh.size;clear d0 d1 f0 f1
    go_wp2_with (first
     | (at_builtin
        have T1:=Fj.ext (D4.alloc w5 (SH #[U s] 3));refine bK rfl _ _ rfl wd (FB a4 n4 p4) _ rfl T1 _ 1 _ [(s:Int)] rfl (G3 j9) (l8 Gq.o) t8 ?_;intro v6 w6 ho hg r';obtain⟨a6,n6,p6,rfl,Jy⟩:=ho.var;have Gp:=I ho;have X6:=I (aj (Hh.trans (D4.alloc w5 (SH #[U s] 3))) hg (λq hq=>(Fj.lt q hq).1));clear ho hg r' T1))
    refine sq ?_;exact⟨j+1,s+1,a6,n6,p6,I (l8 HJ.o),I (l8 HS.o),rfl,by go_num,I (by rw[HTP.o];exact Gp),X6⟩
   have Nh:j=G:=by have:=HJ.o;have:=HS.o;have:=L9.o;omega
   subst Nh
   go_wp2_with (first
    | (at_builtin
       have T1:=(HVd.ext R').ext (D4.alloc wr (SH #[FB a4 n4 p4] 29));refine fd rfl _ _ rfl W (FB a3 n3 p3) vs rfl T1 _ _ 1 rfl E5 rfl (l8 NC.o) t8 ?_;intro v6 w6 ho hg r';obtain⟨a6,n6,p6,rfl,Jy⟩:=ho.var;have Gp:=I ho;have WC:=I (((HCd.ext R').ext (D4.alloc wr (SH #[FB a4 n4 p4] 29))).agF T1 hg);have Ri:=I (((HRd.snoc R'.o HOJ.o hszd).ext ZL).IA T1 hg);have X6:=I (aj ((Wv.trans R').trans (D4.alloc wr (SH #[FB a4 n4 p4] 29))) hg (λq hq=>(HVd.lt q hq).1));clear ho hg r' T1))
   refine gy ?_;exact⟨k+1,a6,n6,p6,_,I (l8 HK.o),rfl,by go_num,Gp,I (by rw[Wx.o];exact Ri),WC,X6⟩
 have E':k=G:=l8 HK.o;subst E';go_wp2;go_ret;exact⟨⟨_,rfl,by rw[HLS.o,U8.o];exact bZ.mono' ⟨vs,HV,IE⟩ (l8 Fp.o)⟩,HX.trans IX.o⟩
end
section
variable{k n Gl:Nat}{w:J}{V:o7}{X:o3}
section
variable{w:J}{base g:Nat}{vb vc:atY}{vs:List atY}{A:o4}{B:o7}{C:o3}
theorem D5.putA{w1 w2:J}{G N cap:Nat}(h:D5 w base g (GT G N cap) vb vc vs A B C)(hx:D4 w w1){k:Nat}(hk:k<N){v':atY}{r:o7}(GQ:w1.grownBy w2 (vs[k]?.getD undef).ownBlock)(ho:y9 w2 base v' r)(hn:Jv w1 (vs[k]?.getD undef) v'):
 D5 (w2.setCell (IM G k) v') base g (GT G N cap) vb vc (vs.set k v') (A.set k r) B C:=by
 have K:=h.ext hx;have NG:k<Lp vs:=by rw[h.a.len];exact hk
 have GF:k<Lp A:=by rw[<-h.rows.len];exact NG
 have Wg:=K.rows.row k GF;have GB:w2.heap[g]?=some (SH #[GT G N cap,vb,vc] 124 (0,0)):=(GQ.block g K.lt (K.neR GF)).trans K.box;have GX:∀j,j≠G->(w2.setCell (IM G k) v').heap[j]?=w2.heap[j]?:=λj H=>If _ _ _ _ H
 have QQ:E8 w2 base (GT G N cap) vs:=K.a.keep λj H=>GQ.block j (K.a.lt j H).2 λe=>Wg.apart K.a j e.symm H
 have F0:y9 w2 base vb B:=K.b.keep λj H=>GQ.block j (K.b.lt j H).2 λe=>K.off k j NG e.symm H
 have IH:ZM w2 base vc C:=K.c.keep λj H=>GQ.block j (K.c.lt j H).2 λe=>aD FS K.c Wg j H e.symm
 have Hs:∀i,i<Lp A->i≠k->y9 w2 base (vs[i]?.getD undef) (A[i]?.getD []):=λi hi Pd=>(K.rows.row i hi).keep λj H=>GQ.block j ((K.rows.row i hi).lt j H).2 λe=>K.rows.apart' Pd hi GF H e.symm
 have hnk:∀i j,i<Lp A->i≠k->(vs[i]?.getD undef).ownBlock=some j->v'.ownBlock≠some j:=by
  intro i j hi Pd H Z;rcases hn j Z with e|e
  ·exact K.rows.apart' Pd hi GF H e
  have:=((K.rows.row i hi).lt j H).2;omega
 have hgG:g≠G:=λe=>K.neA N0
 refine⟨(GX g hgG).trans GB,h.hg,?_,⟨by rw[km,km];exact h.rows.len,λi hi=>?_,λa b j VF hb2' H UQ=>?_⟩,F0.keep λj H=>GX j λe=>F0.apart QQ j H N0,?_,IH.keep λj H=>GX j λe=>aD FS IH QQ j H N0⟩
 ·have hoo:=QQ;unfold E8 at hoo;rw[h.a.len]at hoo;have:=(W6 hoo k v').1;unfold E8;rw[km,h.a.len];exact this
 ·rw[km]at hi;by_cases Pd:i=k
  ·subst Pd;rw[tu NG,tu GF];exact ho.keep λj H=>GX j λe=>ho.apart QQ j H N0
  rw[pk (vA Pd),pk (vA Pd)];exact(Hs i hi Pd).keep λj H=>GX j λe=>(Hs i hi Pd).apart QQ j H N0
 ·rw[km]at hb2';by_cases hak:a=k
  ·subst hak;rw[tu NG]at H;rw[pk O]at UQ;exact hnk b j hb2' O UQ H
  rw[pk (vA hak)]at H;by_cases PN:b=k
  ·subst PN;rw[tu NG]at UQ;exact hnk a j O hak H UQ
  rw[pk (vA PN)]at UQ;exact h.rows.apart a b j VF hb2' H UQ
 intro i j hi H Z;rw[km]at hi;by_cases Pd:i=k
 ·subst Pd;rw[tu NG]at H;rcases hn j H with e|e
  ·exact K.off i j hi e Z
  have:=(K.b.lt j Z).2;omega
 rw[pk (vA Pd)]at H;exact K.off i j hi H Z
theorem D5.ai1{w1 H:J}{G N cap:Nat}(h:D5 w base g (GT G N cap) vb vc vs A B C)(hx:D4 w w1){k:Nat}(Z:k<N)(GQ:w1.grownBy H (vs[k]?.getD undef).ownBlock):
 H.cell? (IM G k)=some (vs[k]?.getD undef)/\H.frozen? (IM G k)=false:=by
 have Q:=h.ext hx;have NG:k<Lp vs:=by rw[h.a.len];exact Z
 have GF:k<Lp A:=by rw[<-h.rows.len];exact NG
 have Wg:=Q.rows.row k GF;have QQ:E8 H base (GT G N cap) vs:=Q.a.keep λj hj=>GQ.block j (Q.a.lt j hj).2 λe=>Wg.apart Q.a j e.symm hj
 constructor
 ·obtain⟨G',hG,_,hc⟩:=QQ.cell Z;obtain rfl:=O2 hG;rw[hc k Z];simp[NG]
 rcases QQ.2 with⟨K,h0⟩|⟨g',cap',cur,K,hb,hg,_⟩
 ·simp only[mn]at K;obtain⟨h3,_⟩:=K;cases h3
 simp only[mn,Pi,gl,gi]at K;obtain⟨rfl,_⟩:=K;exact fy H _ _ cur _ hg
end
theorem qa:Rd prog 287:=cE func287 k8 k8
theorem qX(x y:Int){b:Nat}(hc:w.cell? (IM b 0)=some (U y))(hy:1<=Gg y/\Gg y<=100):
 f9 287 #[U x,ats (some (IM b 0))] w (ato (!A8 x 1 (Gg y-1))):=by
 have hwc:=dc (Gg y-1);unfold f9;go_in
 go_wp2_with (first
  | (go_at_call 83;refine cR (ev _ _) ?_)
  | (go_at_call 82;refine cR ns ?_))
 go_ret;exact⟨rfl,So⟩
def P5(q:Nat)(l:o7)(k:Nat):o4:=(List.range q).map λi=>if i<k then VZ l i else D8 l i
theorem Da(q:Nat)(l:o7):P5 q l 0=Gk q l:=by
 unfold P5 Gk;exact TL λi _=>f8 O
theorem CZ(q:Nat)(l:o7):P5 q l q=QV q l:=by
 unfold P5 QV;exact TL λi hi=>i7 (nM.1 hi)
theorem Aj{q:Nat}(l:o7)(h:k<q):(P5 q l k)[k]?.getD []=D8 l k:=by
 unfold P5;simp[h]
theorem Nd{q:Nat}(l:o7)(h:k<q):(P5 q l k).set k (VZ l k)=P5 q l (k+1):=by
 apply ub;intro i;unfold P5;by_cases hi:i=k
 ·subst hi;rw[tu (by simp[h])];simp[h]
 rw[pk (vA hi)];by_cases G:i<q
 ·simp only[sr,Pp G,tv];by_cases H:i<k
  ·rw[i7 H,i7 O]
  rw[f8 H,f8 O]
 simp[G]
theorem wK{l:o7}{j:Nat}(hL:Lp l=n)(h:j<n):((D8 l k).take (j+1)).sum=((D8 l k).take j).sum+(D8 l k)[j]?.getD 0:=by
 have G:j<Lp (D8 l k):=by simp only[D8,b7];omega
 rw[tn G,rb,Wo,In G,NE]
theorem Ab(n:Nat):eV (List.replicate n 0)=List.replicate n ((0:Int),(1:Int)):=by
 rw[gO (by intro x hx;rw[J3]at hx;omega)];simp[aI]
section
variable{w:J}{x:Int}{a:o6}{n cap:Nat}{l:o7}
def P0(h:σ:=by
 clear h hl C9;(try unfold f9);go_in
 go_upto_region 1 with rfl;rw[<-hW];clear hW;have bx:=Ga.o;go_wp2_with (go_at_call 82;refine(Jj _).mono ?_;rintro e w' ⟨rfl,rfl⟩);go_ret;exact⟨ag ab.symm,Ig⟩
 ):σ:=h
def SA(h:σ:=by
 exact⟨0,I O,rfl,rfl,rfl⟩
 ):σ:=h
theorem sK(h:d6 w a n cap l)(hl:∀k:Nat,l[k]?.getD 0<=9223372036854775807)(hb:n<=1048576):
 f9 221 #[.int .i64 x,FB a n cap] w (ato (P6 x l)):=by
 have y7:=h.y7;have y8:=h.y8;have HL:=I h.hlen;have HB:=I hl;have⟨W,hW⟩:=j7 (w.alloc (SH #[.int .i64 x] 3));have N':D4 w W:=by rw[hW];exact ZL
 refine Op N' (h.ext N') (show W.cell? ⟨w,0,none⟩=some (.int .i64 x)by rw[hW];simp) (λw'=>av x 1 5 w') λIg HI Ga Jj=>?_;have hsW:=N'.size;clear N';cases C9:A8 x 1 5
 ·simp only[C9]at Jj;have ab:=I (show P6 x l=false by unfold P6 gU;rw[C9];rfl);exact P0
 simp only[C9]at Jj;obtain⟨q,rfl⟩:∃q:Nat,x=q:=⟨x.toNat,by simp[A8]at C9;omega⟩;have I6:1<=q:=by simp[A8]at C9;omega
 have Lk:q<=5:=by simp[A8]at C9;omega
 by_cases hn:n<=40
 ·have QN:¬(n:Int) > 40:=by omega
  have hw2:=qj ((n:Int)+2) ((n+2:Nat):Int);have Oi:=bp q Lk;have hcnt:=dT q Lk;have V6:=I (dJ (ca:=#[ats (some ⟨w,0,none⟩)]) (p:=λs=>!A8 s 1 (Gg (q:Int)-1)) HI.o qa (λs w1 B0=>qX s (q:Int) (B0.o9 Ga) (by rw[hcnt];omega)))
  have ahJ:=I (show gU (q:Int) l=!(l.any λs=>!A8 s 1 (Gg (q:Int)-1))by
   unfold gU;rw[C9,HL.o,bl hn,List.any_eq_not_all_not];simp)
  have⟨an,Tk⟩:=j7 (l.any λs=>!A8 s 1 (Gg (q:Int)-1));rw[<-Tk]at V6 ahJ;clear h hl C9 hcnt Tk;(try unfold f9);go_in
  go_upto_region 1 with rfl;rw[<-hW];clear hW;have bx:=Ga.o;go_wp2_with (go_at_call 82;refine cR (Jj _) ?_);refine i6 V6 λw1 B0=>?_;have X1:=I B0;have bx1:=B0.o9 bx;clear B0 bx;cases an
  case' true =>
   have ab:=I (show P6 (q:Int) l=false by unfold P6;rw[ahJ.o];rfl);go_wp2;go_ret;exact⟨ag ab.symm,Ig.trans X1.o⟩
  have Q6:=I (show gU (q:Int) l=true by rw[ahJ.o];rfl);have HM:=I (lR q Lk (HI.ext X1) HB.o O);have J2:=X1.size;go_wp2_with rfl;refine PP HM λw2 vM hoM aa=>?_;have X2:=I aa;have⟨vs,hMv,hMr⟩:=bZ.mono' hoM (show w.heap.size<=w1.heap.size by omega);have HMV:=I hMv;have HMR:=I hMr;obtain⟨aM,nM,cM,rfl,HNM⟩:=hMv.var;obtain rfl:q=nM:=by have h1:=HNM.o;rw[hMr.len]at h1;simpa[Gk]using h1
  have Pa:=aa.size;clear hoM aa hMv hMr;have HTM:=I (gD (w:=w2) (n+2) 0 O);go_wp2_with rfl;refine PP HTM λw3 vT hoT C0=>?_;have X3:=I (X2.trans C0);obtain⟨aT,nT,cT,rfl,HNT⟩:=hoT.var;have L8:=I (jN hoT.ints (by have h1:=HNT.o;rw[yl]at h1;omega));rw[Ab]at L8;have LR:=C0.size;clear hoT;go_wp2_with rfl;refine PP L8 λw4 vC hoC E4=>?_;have X4:=I (C0.trans E4);obtain⟨aC,nC,cC,rfl,HNC⟩:=hoC.var;have Wb:=E4.size;have⟨E,hE⟩:=j7 (w4.alloc (SH #[FB aM q cM,FB none 0 0,FB aC nC cC] 124));have⟨g,hg⟩:=j7 w4.heap.size;have Ic:D4 w1 E:=by rw[hE];exact(X2.trans X4).trans ZL
  have Sa:=I ((Ig.trans X1).trans Ic);have Pt:=I (show D5 E w g (FB aM q cM) (FB none 0 0) (FB aC nC cC) vs (P5 q l 0) ((List.range 0).map (RJ l)) (MM l)from by
   rw[Da];exact⟨by rw[hE,hg];exact LE rfl,by omega,by rw[hE];exact(HMV.ext X4).ext ZL,by rw[hE];exact(HMR.ext X4).ext ZL,y4,λi k _ _ e=>by simp[Value.ownBlock]at e,by
    rw[hE];unfold MM;rw[HL.o];exact(hoC.ext ZL).mono O⟩)
  go_upto_region 6 with rfl;rw[<-hE,<-hg];clear hE hg hoC hw2 C0 E4 Ic;have t0:=Pt.c0;obtain⟨G,rfl,OH⟩:∃G,aM=some ⟨G,0,none⟩/\w.heap.size<=G:=by
   obtain⟨G,hG,Gm,_⟩:=HMV.cell (k:=0) O;exact⟨G,hG,Gm⟩
  go_wp2
  go_loopg [34] q (λgk ii wr=>∃(k:Nat) (vb:atY) (vs:List atY),e9 (gk+k=q)/\ii=.int .i64 (k:Int)/\e9 (D5 wr w g (FB (some ⟨G,0,none⟩) q cM) vb (FB aC nC cC) vs (P5 q l k) ((List.range k).map (RJ l)) (MM l))/\e9 (D4 w wr))
  ·exact ZQ
  rename Nat=>g1;rename J=>A1;obtain⟨k,vb,vs,HK,rfl,Z,HX⟩:=hrel;have hsz:=HX.size;by_cases H:k<q
  ·have HML:=I (show(D8 l k).length=n by simp only[D8,b7];rw[HL.o]);have A4:=Z.rows.row k (by rw[Z.rows.len.symm,Z.a.len];exact H);rw[Aj l H]at A4;have⟨ar,cr,Ta,FQ,IH⟩:=A4.form;rw[HML.o]at Ta FQ;rw[Ta]at A4;have Ja:=I A4;have Kx:=I Ta;obtain⟨G',JL,_,hcell⟩:=Z.a.cell H;simp only[Pi,gl,gi]at JL;subst JL;have tk:A1.cell? ⟨G,k,none⟩=some (FB ar n cr):=by
    rw[hcell k H,<-Ta];have:k<Lp vs:=by rw[Z.a.len];exact H
    simp[this]
   clear A4 Ta hcell;have MI:=aE k;have Ij:=SW k q;go_wp2
   go_loopg [8,41] n (λgk bb ii wr=>∃j:Nat,e9 (gk+j=n)/\ii=.int .i64 (j:Int)/\bb=.int .i64 (((D8 l k).take j).sum)/\wr=A1)
   ·exact SA
   obtain⟨j,HJ,rfl,rfl,rfl⟩:=hrel;have KD:=mt l k j;have Zh:=mt l k (j+1);have⟨sm,hsm⟩:=j7 (((D8 l k).take j).sum);rw[<-hsm]at KD;rw[<-hsm];by_cases Hn:j<n
   ·have⟨eb,D6,Kl,GI⟩:=Ja.ints.at Hn;subst Kl;have hss:=wK (k:=k) HL.o Hn;rw[<-hsm]at hss;rw[hss]at Zh;have⟨s,hs⟩:=j7 ((D8 l k)[j]?.getD 0);rw[<-hs]at GI hss Zh;have Tr:=I hss;have Q':=dc (sm+s);have hj0:=aE j;have hj1:=SW j n;clear hs hss hsm;go_wp2_with rfl;refine sq ?_;exact⟨j+1,I (l8 HJ.o),by go_num,by rw[Tr.o],rfl⟩
   have JK:n=j:=l8 HJ.o;have Ts:=I (show sm=(D8 l k).sum by rw[hsm,aP Wk]);have⟨bv,hbv⟩:=j7 (-sm);have Q':IntKind.i64.wrap (-sm)=bv:=by rw[j0,hbv];omega
   have WD:=I (show RJ l k=bv by rw[hbv,Ts.o];rfl);have t1:=Z.c1;have bf:=Z.free;have LW:=Z.lt;have J9:=I (show((List.range k).map (RJ l)).length=k by simp);clear JK hbv hsm KD Zh;go_upto_region 16 with(first
    | (at_builtin;refine bK rfl _ _ rfl w vb _ rfl (Z.b.ext ZL) _ 1 _ [bv] rfl (G3 j9) (by rw[J9.o];omega) t8 ?_;intro v9 w9 ho It r';have Mn:=I (Z.pushB ZL It ho r');have Gu:=Z.QT ZL It;have c09:=D5.G8 Gu;have UY:=D5.Hv Gu;have Pj:D4 w w9:=aj (D4.trans HX.o ZL) It (λj hj=>(Z.b.lt j hj).1);obtain⟨a9,n9,q9,rfl,Qe⟩:=ho.var;clear ho It r' Gu))
   have MX:=I (Pj.setCell (p:=⟨g,1,none⟩) Z.hg (FB a9 n9 q9));have⟨W8,PT⟩:=j7 (w9.setCell ⟨g,1,none⟩ (FB a9 n9 q9));rw[<-PT]at Mn MX;rw[<-PT];clear PT c09 UY Pj tk t1 Q' bf;have t0:=Mn.c0;have Zk:=Mn.rows.row k (by rw[Mn.rows.len.symm,Mn.a.len];exact H);rw[Aj l H,Kx.o]at Zk;have hs8:w.heap.size<=W8.heap.size:=V2 MX.o;have C4:=D4.drew W8;have aaI:=I (Zk.ext C4);have Vb:=I (Mn.ext C4);have hXd:D4 w W8.drew:=D4.trans MX.o C4;clear Zk;refine cj (M:=[7]) (S:=λw'=>w'.cell? ⟨g,0,none⟩=some (FB (some ⟨G,0,none⟩) q cM)/\D4 w w') k8 ?_;have r9:=eN (C4.o9 t0) hXd;have⟨wd,hwd⟩:=j7 W8.drew;rw[<-hwd]at C4 aaI Vb hXd r9;rw[<-hwd];clear hwd;have Te:=C4.size;have td:=Vb.c0;refine ly ⟨?_⟩;refine Im 4 λK hK=>?_;go_simp;refine hK.out _ _ (λ_=>eN (ZL.o9 td) (hXd.trans ZL)) ?_;clear hK K
   try simp only[Act.put,sA,sB,sC]
   refine Im 5 λK hK=>?_;refine aO _ _ l7 w (FB ar n cr) _ l7 (aaI.ext ZL) _ 2 _ [-1,1] l7 (d6.afF [-1,1] _ rfl l7 rfl FS) Wk t8 ?_;intro v6 w6 ho K4 r';obtain⟨a6,n6,q6,rfl,Jy⟩:=ho.var;have Ps:=I (Vb.putA ZL H (by rw[Kx.o];exact K4) ho (by rw[Kx.o];exact r'));have R3:=(K4.block g ((Vb.ext ZL).lt) (by have h3:=Vb.neR (i:=k) (by rw[Vb.rows.len.symm,Vb.a.len];exact H);rw[Kx.o]at h3;exact h3)).trans (Vb.ext ZL).box;have c06:=D5.G9 R3;have hp6:=Vb.ai1 ZL H (by rw[Kx.o];exact K4);obtain⟨ck6,cf6⟩:=hp6;rw[Kx.o]at ck6;have NQ:D4 w w6:=aj (hXd.trans ZL) K4 (λj hj=>(aaI.lt j hj).1);clear ho K4 r' R3;refine KL (eN c06 NQ) λr9=>?_;refine lp 6 ?_;refine Ql 7 ?_;refine cU k8 ?_ _;have Kq:=I (NQ.setCell (p:=⟨G,k,none⟩) OH (FB a6 n6 q6));have⟨W9,J6⟩:=j7 (w6.setCell ⟨G,k,none⟩ (FB a6 n6 q6));rw[<-J6]at Ps Kq;go_upto_region 17 with rfl;rw[<-J6];clear J6 c06 ck6 cf6 r9 C4 hXd NQ td t0;go_wp2_with rfl
   refine gy ?_;exact⟨k+1,_,_,I (l8 HK.o),by go_num,I (by
    have h1:=Ps.o;rw[<-WD.o,dq]at h1;rw[<-Nd l H];exact h1),Kq⟩
  have Vy:q=k:=l8 HK.o;rw[<-Vy,CZ]at Z;have FF:e9 (D5 A1 w g (FB (some ⟨G,0,none⟩) q cM) vb (FB aC nC cC) vs (QV q l) (SM q l) (MM l)):=Z;obtain⟨aB,nB,cB,rfl,VT⟩:=FF.b.var;have Ji:=I (show L6 A1 (some ⟨G,0,none⟩) q cM aB nB cB aC nC cC (QV q l) (SM q l) (MM l)from
   ⟨bZ.Mg ⟨vs,FF.a,FF.rows⟩,FF.b.ints,FF.c.rats⟩)
  have GG:=I (lQ Ji);have⟨r,hr⟩:=j7 (bH az (QV q l) (SM q l) (MM l));rw[<-hr]at GG;have HF:=I (show P6 (q:Int) l=(r.status == 1)by
   unfold P6;rw[Q6.o,eI,<-hr,wq];rfl)
  have t0:=FF.c0;have t1:=FF.c1;have t2:=FF.c2;clear Vy hr;obtain⟨st,rX,rY,rr,⟨FR,Fz⟩,rp⟩:=r;go_wp2_with rfl;refine GG.mono ?_;rintro e w2 ⟨⟨xa,xn,xc,ya,yn,yc,ra,rn,rc,rfl,_⟩,C9⟩;unfold JA;have hfd:∀w:J,(Instr.field 128 (.agg #[.int .i64 st,FB xa xn xc,FB ya yn yc,FB ra rn rc,.int .i64 FR,.int .i64 Fz,.int .i64 rp]) 0).run prog w=.ok (.int .i64 st) w:=λ_=>by kernel_rfl
  exact gd
 have QN:(n:Int) > 40:=O;have ab:=I (show P6 (q:Int) l=false by unfold P6 gU;rw[HL.o,RK hn];simp);exact P0
end
theorem ry{l:o3}{e:o8}:∀{m:Nat},∀x∈Jf l e m,1<=x/\x<=(m:Int)
 | 0,x,h=>by simp[Jf]at h
 | m+1,x,h=>by
   by_cases hc:D' (l[m]?.getD (0,0)) e<0
   ·rw[oX hc]at h;have:=ry x h;omega
   rw[oY hc]at h
   rcases Pm.1 h with h|h
   ·have:=ry x h;omega
   rw[Nu]at h;subst h;omega
theorem Bh{p:Int}{l:o3}(h:Gt p V X=some l):Lp l<=32:=by
 have H:=dS h;obtain⟨q,_,h4,G,hlen,_,_⟩:=ap (dY H.1);have:=bp q G;omega
theorem Az(p:Int)(V:o7)(X:o3):Lp (Mv p V X)<=32/\∀r∈Mv p V X,Lp r<=32/\∀k:Nat,r[k]?.getD 0<=9223372036854775807:=by
 cases h:Gt p V X with
 | none=>rw[vt h];simp
 | some l =>
   have hl:=Bh h;rw[oZ h];refine⟨by have:=ym l (Lp l);unfold Vm;omega,λr hr=>?_⟩;unfold Vm ND at hr;obtain⟨e,_,rfl⟩:=xl.1 hr;refine⟨by have:=np l e (Lp l);omega,λk=>?_⟩;by_cases G:k<(Jf l e (Lp l)).length
   ·rw[In G,NE];have:=ry _ (cP G);omega
   rw[mq O];simp
def NR(p:Int)(V:o7)(X:o3):Option (o7):=(Mv p V X).find? λr=>!J8 p r
theorem Ap{f:o7->Bool}{L:o4}{r:o7}(hr:L[k]?=some r)(h:(L.take k).all (λr=>!f r)=true)(G:f r=true):L.find? f=some r:=by
 obtain⟨K,rfl⟩:=Ls.1 hr;have e:L=L.take k++(L[k]::L.drop (k+1)):=by rw[<-Xd K,YP]
 generalize hx:L[k]=x at G e⊢;rw[e,List.find?_append,n0.2 (λy H=>by have:=fp.1 h y H;simpa using this),List.find?_cons_of_pos G];rfl
theorem uZ{f:o7->Bool}{L:o4}(h:L.all (λr=>!f r)=true):L.find? f=none :=
 n0.2 (λy G=>by have:=fp.1 h y G;simpa using this)
theorem nL{v:atY}{a b:Bool}(h:a=b):atn (.tuple #[v,ato a])=atn (.tuple #[v,ato b]):=by rw[h]
def PV(h:σ:=by
 have HF:=I (show NR p V X=some r by rw[HFX.o];exact Ap GV.o aa.o (by rw[<-Hy.o];rfl));go_wp2;go_ret2;exact⟨⟨_,nL oj,by rw[HF.o];exact ahc.mono HX.size⟩,HX.trans (X1.trans X2)⟩
 ):σ:=h
theorem qi{p:Int}{a:o6}{cap:Nat}(h:d6 w a n cap V){b:o6}{m:Nat}(hx:i8 w b m Gl X):
 Calls prog 141 #[Id p a n cap,FB b m Gl] w λe w'=>(∃v,e=atn (.tuple #[v,ato (NR p V X).isSome])/\y9 w' w v ((NR p V X).getD []))/\D4 w w':=by
 have⟨W,hW⟩:=j7 (w.alloc (SH #[U p,FB a n cap] 31));have hX:D4 w W:=by rw[hW];exact ZL
 have k0:W.cell? (IM w 0)=some (U p):=by rw[hW];simp
 have k1:W.cell? (IM w 1)=some (FB a n cap):=by rw[hW];simp
 refine Fn k0 hX (BP (p:=p) (h.ext hX) (hx.ext hX)) λK0 HX HE=>?_;have⟨L,hL⟩:=j7 (Mv p V X);have IY:=I (Az p V X);have HFX:=I (show NR p V X=L.find? (λr=>!J8 p r)by rw[hL];rfl);rw[<-hL]at HE IY;clear h hx hX hL;go_in
 go_upto_region 1 with rfl;rw[<-hW];clear hW;go_wp2_with rfl;refine hF HE λw1 v ho X1=>?_;obtain⟨vs,TU,Wf⟩:=ho;obtain⟨a1,n1,c1,rfl,HN⟩:=TU.var;refine Fn TU Wf (show Lp L=n1 by rw[<-Wf.len];exact HN) λHV HR La=>?_;have Ht:n1<=32:=by have G:=IY.1;have h2:=La.o;omega
 clear TU Wf HN;go_wp2
 go_loopg [12] n1 (λgk ii wr=>∃(k:Nat),e9 (gk+k=n1)/\ii=U k/\e9 ((L.take k).all (λr=>!!J8 p r)=true)/\e9 (D4 w1 wr))
 ·exact FC
 obtain⟨k,HK,rfl,aa,XR⟩:=hrel;by_cases K:k<n1
 ·have GF:k<Lp L:=by rw[La.o];exact K
  obtain⟨g,hg,_,K6⟩:=(HV.ext XR).cell K;have H:=(HR.ext XR).row k GF;have hc:=K6 k K;obtain⟨r,hr⟩:∃r,L[k]?=some r:=⟨_,In GF⟩;rw[hr,NE]at H;have Z:k<Lp vs:=by rw[HR.len];exact GF
  rw[In Z]at hc;rw[In Z,NE]at H;have⟨ra,rn,rc,Vs,NX⟩:=H.var;rw[Vs]at hc H;subst hg;have U7:=I H;have Kw:=IY.2 r (MV hr);have GV:=I hr;have c0:=(X1.trans XR).o9 K0.o;have HB:=sK (x:=p) H.ints Kw.2 (by have G:=H.ints.hlen;have:=Kw.1;omega);rw[hZ]at HB;have⟨bb,Hy⟩:=Ok (J8 p r);rw[<-Hy.o]at HB;have HB:=I HB;clear H Kw Vs NX hr Z K6;go_wp2_with rfl;refine qc HB λw2 C9=>?_;have X2:=I (XR.trans C9);have ahc:=I (U7.ext C9);clear c0;cases bb
  ·exact PV
  have HT:=I (show(L.take (k+1)).all (λr=>!!J8 p r)=true by
   rw[tn GF,p7,aa.o];have G:=GV.o;rw[In GF]at G;simp only[Pi]at G;rw[G];simp[<-Hy.o])
  exact S7
 have HF:=I (show NR p V X=none by
  have G:=aa.o;rw[aP (by rw[La.o];have:=HK.o;omega)]at G
  rw[HFX.o];exact uZ G)
 go_wp2;go_ret2;exact⟨⟨_,nL oj,by rw[HF.o];exact y4⟩,HX.trans (X1.trans XR)⟩
theorem ql{p:Int}{a:o6}{cap:Nat}(h:d6 w a n cap V){b:o6}{m:Nat}(hx:i8 w b m Gl X):
 Calls prog 265 #[Id p a n cap,FB b m Gl] w λe w'=>(∃v,e=atn (.tuple #[v,ato (NR p V X).isSome])/\y9 w' w v ((NR p V X).getD []))/\D4 w w':=by
 have⟨W,hW⟩:=j7 (w.alloc (SH #[.int .i64 p,FB a n cap] 31));have hX:D4 w W:=by rw[hW];exact ZL
 have k0:W.cell? ⟨w,0,none⟩=some (.int .i64 p):=by rw[hW];simp
 have k1:W.cell? ⟨w,1,none⟩=some (FB a n cap):=by rw[hW];simp
 refine Fn k0 hX (CF (p:=p) (h.ext hX) (hx.ext hX)) λK0 HX HE=>?_;have⟨L,hL⟩:=j7 (Mv p V X);have IY:=I (Az p V X);have HFX:=I (show NR p V X=L.find? (λr=>!J8 p r)by rw[hL];rfl);rw[<-hL]at HE IY;clear h hx hX hL;go_in
 go_upto_region 1 with rfl;rw[<-hW];clear hW;go_wp2_with rfl;refine PP HE λw1 v ho B0=>?_;obtain⟨vs,TU,Wf⟩:=ho;obtain⟨a1,n1,c1,rfl,HN⟩:=TU.var;refine Op TU Wf (show Lp L=n1 by rw[<-Wf.len];exact HN) B0 λHV HR La X1=>?_;have Ht:n1<=32:=by have G:=IY.1;have h2:=La.o;omega
 clear TU Wf B0 HN;go_wp2
 go_loopg [7] n1 (λgk ii wr=>∃(k:Nat),e9 (gk+k=n1)/\ii=.int .i64 (k:Int)/\e9 ((L.take k).all (λr=>!!J8 p r)=true)/\e9 (D4 w1 wr))
 ·exact FC
 rename Nat=>g1;rename J=>wr;obtain⟨k,HK,rfl,aa,XR⟩:=hrel;by_cases K:k<n1
 ·have GF:k<Lp L:=by rw[La.o];exact K
  obtain⟨g,hg,_,K6⟩:=(HV.ext XR).cell K;have A4:=(HR.ext XR).row k GF;have hc:=K6 k K;obtain⟨r,hr⟩:∃r,L[k]?=some r:=⟨_,In GF⟩;rw[hr,NE]at A4;have Z:k<Lp vs:=by rw[HR.len];exact GF
  rw[In Z]at hc;rw[In Z,NE]at A4;have⟨ra,rn,rc,Vs,NX⟩:=A4.var;rw[Vs]at hc A4;subst hg;have U7:=I A4;have Kw:=IY.2 r (MV hr);have GV:=I hr;have c0:=(X1.trans XR).o9 K0.o;have H:=I Kw;have⟨bb,GY⟩:=j7 (J8 p r);have Hy:=I GY;clear A4 Kw Vs NX GY hr Z K6;have c0k:=c0;have Wl:=hc;cases bb
  all_goals
   have Pv:=I (λ(w':J) (hk:D4 wr w')=>tF (x:=p) (U7.ext hk).ints H.2 (by have G:=U7.ints.hlen;have:=H.1;omega));rw[<-Hy.o]at Pv;have r7:=D4.drew wr;have Fu:=r7;have r8:=I (λ(w':J) (h:D4 wr w')=>(an (h.o9 c0k) (an (h.o9 Wl) h)));go_wp2_with rfl
   go_region_held3 (λw'=>w'.cell? ⟨w,0,none⟩=some (.int .i64 p)/\w'.cell? ⟨g,k,none⟩=some (FB ra rn rc)/\D4 wr w')
    (with_reducible exact r8.o _ r7)
    (first
      | ((with_reducible refine(Pv.o _ BB).mono ?_)
         rintro e w2 ⟨rfl,ajq⟩;have r7:D4 wr w2:=r7.trans ajq;have hs_w2:=r7.size))
   clear Fu;have X2:=I (XR.trans r7);have ahc:=I (U7.ext r7);have hc:=r7.o9 Wl;clear c0 c0k Wl
  ·exact PV
  have HT:=I (show(L.take (k+1)).all (λr=>!!J8 p r)=true by
   rw[tn GF,p7,aa.o];have G:=GV.o;rw[In GF]at G;simp only[Pi]at G;rw[G];simp[<-Hy.o])
  go_wp2_with rfl;refine gy ?_;exact⟨k+1,I (l8 HK.o),by go_num,HT,X2⟩
 have HF:=I (show NR p V X=none by
  have G:=aa.o;rw[aP (by rw[La.o];have:=HK.o;omega)]at G
  rw[HFX.o];exact uZ G)
 go_wp2;go_ret2;exact⟨⟨_,nL oj,by rw[HF.o];exact y9.Ft _ _ _ rfl (l8 ((HX.trans (X1.trans XR)).size))⟩,(HX.trans (X1.trans XR)).trans ZL⟩
end
section
variable{V:o7}{X l:o3}{Gl k:Nat}{e:o8}
def jA(p:Int)(V:o7)(X:o3):Bool:=(Gt p V X).isSome&&!(NR p V X).isSome
theorem jE{f:Nat->Option (Int×Int)}:∀{m:Nat},(Nm f m).isSome=true↔∀i,i<m->(f i).isSome=true
 | 0=>by simp[Nm]
 | m+1=>by
   simp only[Nm];cases h:Nm f m with
   | none =>
     simp only[Option.bind_none,L',sv,false_iff];intro G;have:=(jE (f:=f) (m:=m)).2 λi hi=>G i O
     rw[h]at this;cases this
   | some l =>
     have K:=(jE (f:=f) (m:=m)).1 (by rw[h];rfl);simp only[kx,Option.isSome_map];constructor
     ·intro G i hi;by_cases H:i=m
      ·rw[H];exact G
      exact K i O
     intro G;exact G m O
theorem Dt{p:Int}(h:Gf p V X=true):(He V X 0).isSome=true:=by
 obtain⟨q,_,_,_,_,G,_⟩:=ap (dY h);have e:cw X 0=some (0,1):=by
  unfold cw;rw[show JY ((0:Nat):Int) 5=[]by decide];rfl
 unfold He;rw[e,G];rfl
def W0(h:σ:=by
 rw[eW hg];have⟨x,hx⟩:=j7 (V[V.length-1]?.getD 0);rw[<-hx];have Gu:=du hb (V.length-1);rw[<-hx]at Gu;unfold PW;rw[py (oa x O O)];rfl
 ):σ:=h
theorem By{p:Int}(h:Gf p V X=true):(He V X (Lp V-1)).isSome=true:=by
 obtain⟨hg,_,_,hs⟩:=sX h;obtain⟨q,_,_,h5,_,_,hb⟩:=ap hg;unfold He;rw[hs];show(PW _ (bu p V,1)).isSome=true;exact W0
theorem mX(p:Int)(V:o7)(X:o3):(MK p V X 0 (Lp V)).isSome=(Gt p V X).isSome:=by
 unfold MK Gt;cases h:Gf p V X
 ·rfl
 rw[i7 rfl,i7 rfl];obtain⟨q,_,Z,h5,hlen,_,_⟩:=ap (dY h);have H:∀q:Fin 6,1<=q.val->2<=cN q.val:=by decide
 have K:=H ⟨q,by omega⟩ Z;simp only at K;rw[uu];unfold NS;rw[jE,jE];constructor
 ·intro G i hi;have:=G (1+i) O
  rwa [fs]at this
 intro G i hi;rw[fs];by_cases h0:i=0
 ·rw[h0];exact Dt h
 by_cases Q:i=Lp V-1
 ·rw[Q];exact By h
 have:=G (i-1) O
 rwa [show 1+(i-1)=i by omega]at this
theorem wE{w:J}{p:Int}{a:o6}{n cap:Nat}(h:d6 w a n cap V){b:o6}{m:Nat}(hx:i8 w b m Gl X):
 f9 67 #[Id p a n cap,FB b m Gl] w (ato (jA p V X)):=by
 have K:=I (D4.alloc w (SH #[U p,FB a n cap] 31));have RT:=iS (p:=p) (h.ext K) (hx.ext K) 0 n ((n:Int)-1) (λ_=>by omega);have G:=mX p V X;rw[h.hlen]at G;rw[G]at RT;refine Fn RT (h.ext K) (hx.ext K) λZ HI aa=>?_;have⟨y7,y8⟩:=h.ath;clear h hx RT G;have⟨A,hA⟩:=j7 ((Gt p V X).isSome);have⟨B,HB⟩:=Ok ((NR p V X).isSome);have HR:=I (show jA p V X=(A&&!B)by rw[hA,HB.o];rfl);rw[<-hA]at Z;clear hA;unfold f9;go_in
 go_wp2_with rfl;refine hF Z λw1 v _ H=>?_;have c0:w1.cell? (IM w 0)=some (U p):=H.o9 j9;have c1:w1.cell? (IM w 1)=some (FB a n cap):=H.o9 j9;have Q:=I (qi (p:=p) (HI.ext H) (aa.ext H));rw[<-HB.o]at Q;go_wp2_with rfl;refine hF Q λw2 v2 _ C9=>?_;have X1:=I (K.trans (H.trans C9));cases A
 all_goals
  have qq0:=@ag;exact Ur
theorem wO{w:J}{p:Int}{a:o6}{n cap:Nat}(h:d6 w a n cap V){b:o6}{m:Nat}(hx:i8 w b m Gl X):
 f9 190 #[Id p a n cap,FB b m Gl] w (ato (jA p V X)):=by
 have H:=I (D4.alloc w (SH #[U p,FB a n cap] 31));have HE:=I (ql (p:=p) (h.ext H) (hx.ext H));have HI:=I (h.ext H);have aa:=I (hx.ext H);clear h hx;have⟨A,hA⟩:=j7 ((Gt p V X).isSome);have⟨B,K⟩:=j7 ((NR p V X).isSome);have⟨C,HC⟩:=Ok (Gf p V X);have HR:=I (show jA p V X=(C&&(A&&!B))by
  unfold jA;rw[<-hA,<-K];cases hc:C
  ·have:=wR (p:=p) (V:=V) (X:=X) (by rw[<-HC.o,hc]);rw[this]at hA;rw[hA];rfl
  rfl)
 have HA:=I hA;rw[<-K]at HE;clear hA K;unfold f9;go_in
 go_wp2_with rfl;refine hF HE λw1 v _ G=>?_;have c0:w1.cell? (IM w 0)=some (U p):=G.o9 j9;have c1:w1.cell? (IM w 1)=some (FB a n cap):=G.o9 j9;have HF:=I (nQ (p:=p) (HI.ext G) (aa.ext G));rw[<-HA.o]at HF;go_wp2_with rfl;refine hF HF λw2 v2 _ Z=>?_;have Q:=I (G.trans Z);replace c0:=Z.o9 c0;replace c1:=Z.o9 c1;have HP:=I (nN (p:=p) (HI.ext Q) (aa.ext Q));rw[<-HC.o]at HP;go_wp2_with rfl;refine qc HP λw3 C0=>?_;have X1:=I (H.trans (Q.trans C0));clear c0 c1;cases C
 all_goals
  cases A
 all_goals
  have qq0:=@ag;exact Ur
def el(l:o3):Nat->o8
 | 0=>l[0]?.getD (0,0)
 | k+1=>if 0<D' (l[k]?.getD (0,0)) (el l k) then l[k]?.getD (0,0) else el l k
def eL(l:o3)(e:o8)(k:Nat):o7:=((List.range k).filter λi=>decide (l[i]?.getD (0,0)=e)).map λ(i:Nat)=>(i:Int)+1
theorem sZ(h:l[k]?.getD (0,0)=e):eL l e (k+1)=eL l e k++[(k:Int)+1]:=by unfold eL;rw[mr,Wq];simp[h]
theorem vQ(h:l[k]?.getD (0,0)≠e):eL l e (k+1)=eL l e k:=by unfold eL;rw[mr,Wq];simp[h]
theorem nI(l:o3)(e:o8)(k:Nat):Lp (eL l e k)<=k:=by
 unfold eL;rw[b7];exact bR (Zn _ _) j9
theorem Cu{x:Int}(h:x∈eL l e k):1<=x/\x<=k:=by
 unfold eL at h;obtain⟨i,hi,rfl⟩:=xl.1 h;have:=nM.1 (UG.1 hi).1;omega
theorem Dg(x:o8):D' x x=0:=by unfold D';split<;>simp
theorem Db(l:o3):el l 1=l[0]?.getD (0,0):=by
 show(if 0<D' (l[0]?.getD (0,0)) (l[0]?.getD (0,0)) then _ else _)=_;rw[Dg,f8 FS];rfl
def fG(p:Int)(V:o7)(X:o3):Option ((Int×Int)×o7) :=
 match Gt p V X with
 | none=>none
 | some l=>if Lp l=0 then none else some (el l (Lp l),eL l (el l (Lp l)) (Lp l))
theorem Bq(p:Int)(V:o7)(X:o3):fK p V X=((MK p V X 0 (Lp V)).isSome&&!(((MK p V X 0 (Lp V)).getD []).any λe=>decide (0<e.1))):=by
 cases hA:Gt p V X with
 | none =>
   have h:=mX p V X;rw[hA]at h;rw[h];unfold fK;rw[hA];rfl
 | some l =>
   have h:=mX p V X;rw[hA]at h;have⟨L,H⟩:=Option.isSome_iff_exists.1 h;rw[H];have⟨K,hl⟩:=dS hA;rw[mB K]at hA;unfold MK at H;rw[i7 K]at H;unfold NS at hA H;have Z:=iF hA;have hAt:=iF H;have hLl:=cZ H;obtain⟨q,_,h1,h5,hlen,h0,hb⟩:=ap (dY K);have hq:∀q:Fin 6,1<=q.val->2<=cN q.val:=by decide
   have hn:=hq ⟨q,by omega⟩ h1;simp only at hn;have z0:He V X 0=some (0,1):=by
    have e:cw X 0=some (0,1):=by
     unfold cw;rw[show JY ((0:Nat):Int) 5=[]by decide];rfl
    unfold He;rw[e,h0];decide
   have z9:He V X (Lp V-1)=some (0,1):=by
    obtain⟨hg,_,_,hs⟩:=sX K;unfold He;rw[hs];show PW _ (bu p V,1)=some (0,1);exact W0
   show fK p V X=!(L.any λe=>decide (0<e.1));unfold fK;rw[mB K];unfold NS;rw[hA];simp only;rw[uu,fp,Zo,We,Ne,hJ];constructor
   ·rintro Gs ⟨e,he,J4⟩;obtain⟨i,hi,rfl⟩:=ZW.1 he;have G:=hAt i O;rw[In hi,NE,fs]at G;replace J4:=nR J4;generalize L[i]=z at G J4;clear he;by_cases hi0:i=0
    ·subst hi0;rw[z0]at G;rw[<-iv G]at J4;exact absurd J4 FS
    by_cases hi9:i=Lp V-1
    ·rw[hi9,z9]at G;rw[<-iv G]at J4;exact absurd J4 FS
    have hg:=Z (i-1) O;rw[show 1+(i-1)=i by omega,G,In O,NE]at hg;have:=nR (Gs _ (cP (show i-1<Lp l by omega)));rw[<-iv hg]at this;omega
   intro hno e he;obtain⟨i,hi,rfl⟩:=ZW.1 he;have G:=Z i O;rw[In hi,NE]at G;have hg:=hAt (i+1) O;rw[fs,RY,G,In O,NE]at hg;refine bl (XP λJ4=>hno ⟨L[1+i]' O,cP _,bl ?_⟩);rw[<-iv hg];omega
def iy(f:Nat->Bool):Nat->Nat
 | 0=>0
 | k+1=>iy f k+if f k=true then cN k else 0
theorem rt(f:Nat->Bool):∀k,iy f k<cN k
 | 0=>by simp[iy,cN]
 | k+1=>by
   have ih:=rt f k;have e:cN (k+1)=cN k+cN k:=by unfold cN;rw[Nat.pow_succ];omega
   unfold iy;split<;>omega
def Ul(a b k:Nat):Bool:=M2 (a:Int) k||M2 (b:Int) k
def Ui(a b k:Nat):Bool:=M2 (a:Int) k&&M2 (b:Int) k
theorem T':∀a b:Fin 32,iy (Ul a.val b.val) 5=a.val ||| b.val:=by decide +kernel
theorem b3:∀a b:Fin 32,iy (Ui a.val b.val) 5=a.val &&& b.val:=by decide +kernel
def W8(h:σ:=by
 rw[Gm]at HA;rw[F0]at HB;rw[Gm,F0]at HS;clear Gm F0;go_wp2_with rfl;refine(HG _).mono ?_;rintro e w3 ⟨rfl,rfl⟩;go_wp2_with rfl;refine(Ly _).mono ?_;rintro e w3 ⟨rfl,rfl⟩;go_wp2_with rfl;refine(bE (a:Int) (k:Int) _ O).mono ?_;rw[HA.o];rintro e w3 ⟨rfl,rfl⟩;go_wp2_with rfl
 try(refine(bE (b:Int) (k:Int) _ O).mono ?_;rw[HB.o];rintro e w3 ⟨rfl,rfl⟩;go_wp2_with rfl)
 try(refine(HC _).mono ?_;rintro e w3 ⟨rfl,rfl⟩;go_wp2_with rfl)
 refine dk ?_;exact⟨k+1,I (l8 HK.o),by go_num,by rw[HS.o];simp[cN,go_sem];try omega,rfl⟩
 ):σ:=h
def O8(h:σ:=by
 have OE:k=5:=by have:=HK.o;omega
 subst OE;have HT:=I hT;clear hT;go_wp2;go_ret;exact⟨au (by rw[HT.o,HE.o]),rfl⟩
 ):σ:=h
theorem MQ(a b:Nat)(H:a<32)(hb:b<32)(w:J):
 Calls Tryz.prog 351 #[U a,U b] w λe w'=>e=atn (U ((a ||| b:Nat):Int))/\w=w':=by
 have G:A8 (a:Int) 0 31=true:=by unfold A8;simp;omega
 have Lo:A8 (b:Int) 0 31=true:=by unfold A8;simp;omega
 have HG:=I (λw'=>iC (a:Int) w');have Ly:=I (λw'=>iC (b:Int) w');rw[G]at HG;rw[Lo]at Ly;clear G Lo;have HE:=I (T' ⟨a,H⟩ ⟨b,hb⟩);go_in
 go_wp2
 go_loopg [5,6] 5 (λgk o i wr=>∃(k:Nat),e9 (gk+k=5)/\i=U k/\o=U (iy (Ul a b) k:Int)/\wr=w)
 ·exact SA
 obtain⟨k,HK,rfl,ho,rfl⟩:=hrel;have⟨T,hT⟩:=j7 (iy (Ul a b) k);rw[<-hT]at ho;subst ho;by_cases hlt:k<5
 ·have hTl:T<32:=by have:=rt (Ul a b) k;have:=(bp k O).2;omega
  have HT:=I hT;clear hT;refine Fn (dG (a:Int) k O O) (dG (b:Int) k O O) (Xp k O) λHA HB HC=>?_;have hp:=fk k;have Vv:=gG k O;cases Gm:M2 (a:Int) k
  all_goals
   cases F0:M2 (b:Int) k
  all_goals
   have HS:=I (show iy (Ul a b) (k+1)=T+if(M2 (a:Int) k||M2 (b:Int) k)=true then cN k else 0 by rw[HT.o];rfl);exact W8
 exact O8
theorem EM(a b:Nat)(H:a<32)(hb:b<32)(w:J):
 Calls Tryz.prog 350 #[U a,U b] w λe w'=>e=atn (U ((a &&& b:Nat):Int))/\w=w':=by
 have G:A8 (a:Int) 0 31=true:=by unfold A8;simp;omega
 have Lo:A8 (b:Int) 0 31=true:=by unfold A8;simp;omega
 have HG:=I (λw'=>iC (a:Int) w');have Ly:=I (λw'=>iC (b:Int) w');rw[G]at HG;rw[Lo]at Ly;clear G Lo;have HE:=I (b3 ⟨a,H⟩ ⟨b,hb⟩);go_in
 go_wp2
 go_loopg [5,6] 5 (λgk o i wr=>∃(k:Nat),e9 (gk+k=5)/\i=U k/\o=U (iy (Ui a b) k:Int)/\wr=w)
 ·exact SA
 obtain⟨k,HK,rfl,ho,rfl⟩:=hrel;have⟨T,hT⟩:=j7 (iy (Ui a b) k);rw[<-hT]at ho;subst ho;by_cases hlt:k<5
 ·have hTl:T<32:=by have:=rt (Ui a b) k;have:=(bp k O).2;omega
  have HT:=I hT;clear hT;refine Fn (dG (a:Int) k O O) (dG (b:Int) k O O) (Xp k O) λHA HB HC=>?_;have hp:=fk k;have Vv:=gG k O;cases Gm:M2 (a:Int) k
  all_goals
   cases F0:M2 (b:Int) k
  all_goals
   have HS:=I (show iy (Ui a b) (k+1)=T+if(M2 (a:Int) k&&M2 (b:Int) k)=true then cN k else 0 by rw[HT.o];rfl);exact W8
 exact O8
