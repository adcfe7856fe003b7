import Derived.Test.YthpahcbmpoknmaaGreatDoorPzG5
set_option linter.all false
set_option maxHeartbeats 6000000
set_option maxRecDepth 100000
namespace Go.Proofs.YthpahcbmpoknmaaGreatDoor
open Ending renaming returned->atn
open List renaming length->Lp
open Obj renaming cells->SH
open Value renaming slice->FB,bool->ato,pointer->ats
open Go.Proofs.Tryz Go.RowKit
variable{σ:Prop}
section
def O2{b c o:Nat}(h:some (⟨b,o,none⟩:Addr)=some ⟨c,o,none⟩):b=c:=by simpa using h
def pv(h:σ:=by first|with_reducible exact r7.trans E7|with_reducible exact Fu.trans E7|with_reducible exact(r7.trans (D4.alloc _ _)).trans E7):σ:=h
def TP(h:σ:=by first|with_reducible exact r7.trans D3|with_reducible exact Fu.trans D3|with_reducible exact(r7.trans (D4.alloc _ _)).trans D3):σ:=h
def yx(h:σ:=by go_wp2_with rfl;go_meet;first|exact⟨_,rfl,rfl,I (A7.put _ _)⟩|exact⟨_,rfl,rfl,I (ai.new r7 _ _)⟩|exact⟨_,rfl,rfl,I (ai.new' r7 _ _ j9)⟩):σ:=h
def yg(h:σ:=by first| with_reducible exact r8.o _ r7 | with_reducible exact r8.o _ Fu | with_reducible exact r8.o _ ((r7.setCell P8 _).setCell P8 _) | with_reducible exact r8.o _ (r7.trans (D4.alloc _ _)) | with_reducible exact r8.o _ (A7.put _ _).ext):σ:=h
def P8(h:σ:=by first|(simp;done)|(simp;omega)):σ:=h
def eo(h:σ:=by rw[HL.o];have:=HK.o;omega):σ:=h
def N0(h:σ:=by subst e;rfl):σ:=h
def hI(h:σ:=by rw[HL.o];exact m9 _):σ:=h
def N3(h:σ:=by rw[hk,e]):σ:=h
def Ix(h:σ:=by simp[results,qq0,go_sem,FH,FL]<;>rfl):σ:=h
def Um(h:σ:=by have:=IO E6.o;have:=A6.size;omega):σ:=h
def V1(h:σ:=by rw[HN.o];rfl):σ:=h
def W4(h:σ:=by simp[results,qq2,go_sem,FH,FL]<;>rfl):σ:=h
def Qu(h:σ:=by simp only[Value.ownBlock,Pi]at hk;show k≠g;omega):σ:=h
def PJ(h:σ:=by simp[results,results352,go_sem]<;>rfl):σ:=h
def oj(h:σ:=by rw[HF.o];rfl):σ:=h
def OR(h:σ:=by simp[results,results330,go_sem]<;>rfl):σ:=h
def MJ(h:σ:=by have:=HA.o;rw[HT.o]at this;exact this.symm):σ:=h
def Y5(h:σ:=by rw[dZ];omega):σ:=h
def WI(h:σ:=by rw[GS.o];omega):σ:=h
variable{w W:J}{g n k:Nat}{f:Nat->Option (Int×Int)}{C:o7}{a:o6}
structure ai(w W:J)(g:Nat)(p q:Int):Prop where
 ext:D4 w W
 ge:w.heap.size<=g
 cell:W.heap[g]?=some (SH #[U p,U q] 80 (0,0))
theorem ai.lt{p q:Int}(h:ai w W g p q):g<W.heap.size:=IO h.cell
theorem ai.grow{W':J}{p q:Int}(h:ai w W g p q)(hx:D4 W W'):ai w W' g p q :=
 ⟨h.ext.trans hx,h.ge,(hx.block _ h.lt).trans h.cell⟩
theorem ai.c0{p q:Int}(h:ai w W g p q):W.cell? (IM g 0)=some (U p):=(bO h.cell).1
theorem ai.c1{p q:Int}(h:ai w W g p q):W.cell? (IM g 1)=some (U q):=(bO h.cell).2.1
theorem ai.free{p q:Int}(h:ai w W g p q)(o:Nat):W.frozen? (IM g o)=false:=(bO h.cell).2.2 o
theorem ai.new(h:D4 w W)(p q:Int):ai w (W.alloc (SH #[U p,U q] 80)) W p q :=
 ⟨h.trans ZL,h.size,nE _ _⟩
theorem ai.new'(h:D4 w W)(p q:Int)(H:n=W.heap.size):ai w (W.alloc (SH #[U p,U q] 80)) n p q:=by
 subst H;exact ai.new h p q
theorem ai.put{p q:Int}(h:ai w W g p q)(p' q':Int):ai w ((W.setCell (IM g 0) (U p')).setCell (IM g 1) (U q')) g p' q' :=
 ⟨(h.ext.setCell (p:=(IM g 0)) h.ge (U p')).setCell (p:=(IM g 1)) h.ge (U q'),h.ge,by rw[aM _ _ _ _ _ _ (aM _ _ _ _ _ _ h.cell)];rfl⟩
theorem ai.Fk{w':J}(h:D4 (w.alloc (SH #[U 0,U 0] 80)).drew w'):ai w w' w 0 0 :=
 ai.grow ⟨ZL.trans fl,m9 _,nE w _⟩ h
theorem ai.Fq{w':J}(h:D4 w W)(hx:D4 (W.alloc (SH #[U 0,U 0] 80)) w'):ai w w' W 0 0 :=
 ai.grow (ai.new h 0 0) hx
def Nm(f:Nat->Option (Int×Int)):Nat->Option (o3)
 | 0=>some []
 | m+1=>(Nm f m).bind λl=>(f m).map λx=>l++[x]
theorem eg{r:o3}{x:o8}(h:Nm f k=some r)(hx:f k=some x):Nm f (k+1)=some (r++[x]):=by simp[Nm,h,hx]
theorem tA(h:Nm f k=none):∀{n:Nat},k<=n->Nm f n=none
 | n,hn=>by
   obtain⟨d,rfl⟩:∃d,n=k+d:=⟨n-k,by omega⟩;clear hn
   induction d with
   | zero=>exact h
   | succ d ih=>show(Nm f (k+d)).bind _=none;rw[ih];rfl
theorem fB{r:o3}(h:Nm f k=some r)(hx:f k=none)(hn:k<n):Nm f n=none :=
 tA (k:=k+1) (by simp[Nm,h,hx]) O
theorem cZ{f:Nat->Option (Int×Int)}:∀{k:Nat} {r:o3},Nm f k=some r->Lp r=k
 | 0,r,h=>by simp only[Nm,Pi]at h;rw[<-h];rfl
 | k+1,r,h=>by
   cases H:Nm f k with
   | none=>simp[Nm,H]at h
   | some l =>
     cases K:f k with
     | none=>simp[Nm,H,K]at h
     | some x =>
       rw[eg H K]at h;simp only[Pi]at h;rw[<-h,ar,cZ H]
       rfl
theorem iF{f:Nat->Option (Int×Int)}:∀{k:Nat} {r:o3},Nm f k=some r->∀i,i<k->f i=some (r[i]?.getD (0,0))
 | 0,r,h=>λi hi=>absurd hi O
 | k+1,r,h=>λi hi=>by
   cases H:Nm f k with
   | none=>simp[Nm,H]at h
   | some l =>
     cases K:f k with
     | none=>simp[Nm,H,K]at h
     | some x =>
       rw[eg H K]at h;simp only[Pi]at h;subst h;have Z:=cZ H;by_cases Pd:i<k
       ·rw[nP O];exact iF H i Pd
       obtain rfl:i=k:=O
       rw[<-Z,Rx,NE,Z,K]
theorem yK{f:Nat->Option (Int×Int)}{F:Nat->o8}:∀{k:Nat},(∀i,i<k->f i=some (F i))->Nm f k=some ((List.range k).map F)
 | 0,_=>rfl
 | k+1,h=>by
   rw[eg (yK λi hi=>h i O) (h k O),mr,rN]
   rfl
def Ov(A:o3)(k:o8)(B:o3)(i:Nat):Option (Int×Int) :=
 if(cn k (B[i]?.getD (0,0))).2=true/\(F6 (A[i]?.getD (0,0)) (cn k (B[i]?.getD (0,0))).1).2=true then some (F6 (A[i]?.getD (0,0)) (cn k (B[i]?.getD (0,0))).1).1 else none
def Iw(A:o3)(k:o8)(B:o3):Option (o3):=if Lp A=Lp B then Nm (Ov A k B) (Lp A) else none
def aI(C:o7):o3:=C.map λc=>(c,1)
theorem fZ(C:o7):Lp (aI C)=Lp C:=by simp[aI]
theorem pC(h:k<Lp C):(aI C)[k]?.getD (0,0)=(C[k]?.getD 0,1):=by simp[aI,h]
def Nn(C:o7):Bool:=C.all λc=>A8 c (-1000000000) 1000000000
def Wi(h:σ:=by
 have r7:D4 wr wr.drew:=D4.drew wr;have Fu:D4 wr (wr.alloc (SH #[U 0,U 0] 80)).drew:=ZL.trans fl;have r8:=I (λ(w':J) (h:D4 wr w')=>(an (h.o9 SC) (an (h.o9 SB) (an (h.o9 PQ) (an (h.o9 PO) h)))))
 go_region_held3 (λw'=>w'.cell? (IM w.heap.size 0)=some (U k1)/\w'.cell? (IM w.heap.size 1)=some (U k2)/\w'.cell? (IM bb (NU+k*2))=some (U bx)/\w'.cell? (IM bb (NU+k*2+1))=some (U by')/\D4 wr w')
  (exact yg)
  (first
    | ((with_reducible refine(qq0 k1 k2 bx by' _).mono ?_)
       rw[HM.o];rintro e w3 ⟨rfl,D3⟩
       try with_reducible first|have A7:=ai.grow A7 D3|have A7:=ai.Fk D3|have A7:=ai.Fq r7 D3
       try(have Ko:=A7.c0;have Kn:=A7.c1;have L4:=A7.free)
       have r7:D4 wr w3:=TP;have G7:=r7.size))
 all_goals(exact yx)
 ):σ:=h
def Qy(h:σ:=by
 have r7:D4 wc wc.drew:=D4.drew wc;have Fu:D4 wc (wc.alloc (SH #[U 0,U 0] 80)).drew:=ZL.trans fl;have r8:=I (λ(w':J) (h:D4 wc w')=>(an (h.o9 KI) (an (h.o9 KH) (an (h.o9 g0) (an (h.o9 g1) h)))))
 go_region_held3 (λw'=>w'.cell? (IM ab (Np+k*2))=some (U ax)/\w'.cell? (IM ab (Np+k*2+1))=some (U ay)/\w'.cell? (IM g 0)=some (U p)/\w'.cell? (IM g 1)=some (U q)/\D4 wc w')
  (exact yg)
  (first
    | ((with_reducible refine(qq0 ax ay p q _).mono ?_)
       rw[IN.o];rintro e w4 ⟨rfl,E7⟩
       try with_reducible first|have A7:=ai.grow A7 E7|have A7:=ai.Fk E7|have A7:=ai.Fq r7 E7
       try(have Ko:=A7.c0;have Kn:=A7.c1;have L4:=A7.free)
       have r7:D4 wc w4:=pv;have G7:=r7.size))
 all_goals(exact yx)
 ):σ:=h
def RD(h:σ:=by
 obtain⟨rfl,rfl⟩:one=true/\two=true:=by simpa using PS
 have Ky:=I (eg (x:=(p2,q2)) HR.o oj);have GS:=I (cZ HR);have QK:=X2.size;rw[Mc]at QK;clear PS
 go_wp2_with (first
  | (at_builtin;refine Qt p2 q2 FM X2 WI λa2 n2 c2 w4 Jb X5 Gh=>?_))
 refine dk ?_;exact⟨k+1,a2,n2,c2,_,I (l8 HK.o),by go_num,rfl,Ky,Gh,X5⟩
 ):σ:=h
def J5(h:σ:=by
 exact⟨0,_,_,_,[],I O,rfl,rfl,I rfl,I (by simpa using HO.o),I ZL⟩
 ):σ:=h
theorem qq{k1 k2:Int}{b:o6}{cap n' H:Nat}{A B:o3}(h:i8 w a n cap A)(h':i8 w b n' H B)(hbig:n<=1048576):
 Calls prog 352 #[FB a n cap,Ge k1 k2,FB b n' H] w λe w'=>(∃v,e=atn (.tuple #[v,ato (Iw A (k1,k2) B).isSome])/\ZM w' w v ((Iw A (k1,k2) B).getD []))/\D4 w w':=by
 have HL:=I h.hlen;have M4:=I h'.hlen;have⟨y7,y8⟩:=h.ath;have⟨ZI,Zt⟩:=h'.ath;refine Fn h h' (D4.alloc w (SH #[U k1,U k2] 80)) λHA HB' HX=>?_;by_cases K:n=n'
 ·subst K;have HS:=I (show Iw A (k1,k2) B=Nm (Ov A (k1,k2) B) n by unfold Iw;rw[HL.o,M4.o,i7 rfl]);have HO:=I (ZM.made (w.alloc (SH #[U k1,U k2] 80)) (w+1) j9);go_in
  go_wp2
  go_loopg [8,22] n (λgk o i wr=>∃(k:Nat) (a1:o6) (n1 p1:Nat) (r:o3),e9 (gk+k=n)/\i=U k/\o=FB a1 n1 p1/\e9 (Nm (Ov A (k1,k2) B) k=some r)/\e9 (ZM wr (w+1) (FB a1 n1 p1) r)/\e9 (D4 (w.alloc (SH #[U k1,U k2] 80)) wr))
  ·exact J5
  obtain⟨k,a1,n1,p1,r,HK,rfl,rfl,HR,Z,A6⟩:=hrel;have Nd:=A6.size;rw[Mc]at Nd;by_cases hlt:k<n
  ·have SC:wr.cell? (IM w 0)=some (U k1):=A6.o9 j9;have SB:wr.cell? (IM w 1)=some (U k2):=A6.o9 j9;have⟨ab,Np,ax,ay,ha,UT,KI,KH⟩:=((HA.ext HX).ext A6).at hlt;have⟨bb,NU,bx,by',hb,Gu,PQ,PO⟩:=((HB'.ext HX).ext A6).at hlt;subst ha hb;have HAX:=I UT;have Ga:=I Gu;obtain⟨p,q,one,hm⟩:∃p q ok,cn (k1,k2) (bx,by')=((p,q),ok):=⟨_,_,_,rfl⟩;have HM:=I hm;obtain⟨p2,q2,two,Pa⟩:∃u v ok,F6 (ax,ay) (p,q)=((u,v),ok):=⟨_,_,_,rfl⟩;have IN:=I Pa;go_upto_region 7 with rfl
   go_cut [10,11] (λsx so wx=>∃g:Nat,sx=ats (some (IM g 0))/\so=ato one/\e9 (ai wr wx g p q))
   case first =>
    have qq0:=@xK;exact Wi
   obtain⟨g,rfl,rfl,FJ⟩:=hcut;have g0:=FJ.c0;have g1:=FJ.c1;replace KI:=FJ.ext.o9 KI;replace KH:=FJ.ext.o9 KH;go_upto_region 8 with rfl
   go_cut [12,13] (λsx so wx=>∃g2:Nat,sx=ats (some (IM g2 0))/\so=ato two/\e9 (ai wc wx g2 p2 q2))
   case first =>
    have qq0:=@kW;exact Qy
   obtain⟨g2,rfl,rfl,GL⟩:=hcut;have X2:=I ((A6.trans FJ.ext).trans GL.ext);have FM:=I ((Z.ext FJ.ext).ext GL.ext);have h0:=GL.c0;have h1:=GL.c1;have HF:=I (show Ov A (k1,k2) B k=if(one&&two)=true then some (p2,q2) else none by unfold Ov;rw[HAX.o,Ga.o,HM.o];simp only;rw[IN.o];simp only[cM]);cases PS:(one&&two)
   ·have HN:e9 (Nm (Ov A (k1,k2) B) n=none):=fB HR.o (by rw[HF.o,PS];rfl) hlt;cases one
    case' true=>(have h2:two=false:=by simpa using PS);subst h2
    all_goals
     go_wp2;refine GE PJ rfl ⟨⟨d9,by rw[HS.o,HN.o];rfl,by rw[HS.o,HN.o];exact og⟩,HX.trans X2.o⟩
   exact RD
  have E':k=n:=l8 HK.o;subst E';go_wp2;refine GE PJ rfl ⟨⟨FB a1 n1 p1,by rw[HS.o,HR.o];rfl,by rw[HS.o,HR.o];exact Z.mono (bq _)⟩,HX.trans A6.o⟩
 have HN:=I (show Iw A (k1,k2) B=none by unfold Iw;rw[HL.o,M4.o,f8 K]);go_in
 go_wp2;refine GE PJ rfl ⟨⟨d9,by rw[HN.o];rfl,by rw[HN.o];exact og⟩,HX⟩
theorem cW(n:Int)(w:J):f9 128 #[U n] w (Ge n 1):=by
 have HX:=I (D4.alloc w (SH #[U n,U 1] 80));unfold f9;go_in
 go_wp2;have qq0:=@results128;exact VY
theorem cV(n:Int)(w:J):f9 171 #[U n] w (Ge n 1):=by
 have HX:=I (D4.alloc w (SH #[U n,U 1] 80));unfold f9;go_in
 go_wp2;have qq0:=@results171;exact VY
theorem qH(h:k<Lp C):aI (C.take k)++[(C[k]?.getD 0,1)]=aI (C.take (k+1)):=by
 rw[cD h];simp[aI]
def eV(C:o7):o3:=if Nn C=true then aI C else []
def Vx(h:σ:=by
 exact⟨0,_,_,_,I O,rfl,rfl,I rfl,HO,I ZL⟩
 ):σ:=h
theorem xG{cap:Nat}(h:d6 w a n cap C)(hbig:n<=1048576):
 Calls prog 330 #[FB a n cap] w λe w'=>(∃v,e=atn (.tuple #[v,ato (Nn C)])/\ZM w' w v (eV C))/\D4 w w':=by
 have HL:=I h.hlen;have⟨y7,y8⟩:=h.ath;have HC:=I h;have HO:=I (ZM.made w w (m9 _));go_in
 go_wp2
 go_loopg [4,10] n (λgk o i wr=>∃(k:Nat) (Z:o6) (K H:Nat),e9 (gk+k=n)/\i=U k/\o=FB Z K H/\e9 (Nn (C.take k)=true)/\e9 (ZM wr w (FB Z K H) (aI (C.take k)))/\e9 (D4 w wr))
 ·exact Vx
 obtain⟨k,Z,K,H,HK,rfl,rfl,HF,HO1,A6⟩:=hrel;by_cases hlt:k<n
 ·have⟨b,off,ha,hc⟩:=(HC.ext A6).at hlt;subst ha;have⟨c,Qh⟩:=Ok (C[k]?.getD 0);rw[<-Qh.o]at hc;have Nd:=A6.size;have Hk:=I (show k<Lp C by have:=HL.o;omega);cases FA:A8 c (-1000000000) 1000000000
  ·have HN:=I (show Nn C=false by
    rw[<-No];intro hh;have:=tU (k:=k) hh Hk.o;rw[<-Qh.o,FA]at this;cases this)
   have HI:=I (av c (-1000000000) 1000000000 wr);rw[FA]at HI;go_wp2_with rfl;refine HI.mono ?_;rintro e w2 ⟨rfl,rfl⟩;go_wp2;refine GE OR rfl ⟨⟨d9,by rw[HN.o],by unfold eV;rw[HN.o];exact og⟩,A6⟩
  have HF2:=I (show Nn (C.take (k+1))=true by
   unfold Nn;rw[cD Hk.o,p7];have:=HF.o;unfold Nn at this;rw[this,<-Qh.o];simp only[Zc,UF,FA,Bool.and_self])
  have HI:=I (av c (-1000000000) 1000000000 wr);rw[FA]at HI;go_wp2_with rfl;refine HI.mono ?_;rintro e w2 ⟨rfl,rfl⟩;have VX:=I (show(aI (C.take k)).length=k by rw[fZ,jt];have:=Hk.o;omega)
  go_wp2_with (first
   | (go_at_call 128;refine i6 (cW c _) λw3 C0=>?_;have C5:=I C0;have C8:=I (HO1.ext C0);have MC:=C0.size)
   | (at_builtin;refine cH rfl _ _ rfl w (FB Z K H) _ rfl (C8.ext ZL) _ 1 _ [(c,1)] rfl (z6 j9) (by rw[VX.o];omega) t8 ?_;intro v2 w4 ho hg r';obtain⟨a2,n2,c2,rfl,Jb⟩:=ho.var;have Gh:=I ho;have X4:=I (aj ((A6.trans C5).trans ZL) hg (λj hj=>(C8.lt j hj).1))))
  refine dk ?_;exact⟨k+1,a2,n2,c2,I (l8 HK.o),by go_num,rfl,HF2,I (by have:=Gh.o;rw[Qh.o,qH Hk.o]at this;exact this),X4⟩
 have E':k=n:=l8 HK.o;subst E';have HT:e9 (C.take k=C):=aP hI;go_wp2;refine GE OR rfl ⟨⟨FB Z K H,?_,?_⟩,A6⟩
 ·have:=HF.o;rw[HT.o]at this;rw[this]
 have h1:=HF.o;have h2:=HO1.o;rw[HT.o]at h1 h2;unfold eV;rw[i7 h1];exact h2
theorem jN{cap:Nat}(h:d6 w a n cap C)(H:n<=1048576):
 Calls prog 276 #[FB a n cap] w λe w'=>(∃v,e=atn v/\ZM w' w v (eV C))/\D4 w w':=by
 have HI:=I (xG h H);go_in
 go_wp2_with rfl;refine PP HI λw1 v ho hx=>?_;have Z:=I ho;have K:=I hx;go_wp2;go_ret;exact⟨⟨v,rfl,Z⟩,K⟩
end
section
variable{l r cost:o3}{k n m:Nat}{a b:o8}{d x D:Int}{T0:Nat->Nat->Rat}
def Hf(l:o3):Bool:=l.all A5
theorem CY{p:o8->Bool}(h:k<Lp l):(l.take (k+1)).all p=((l.take k).all p&&p (l[k]?.getD (0,0))):=by
 rw[dO h];simp
def Uq(h:σ:=by
 rw[Uf];exact⟨l[k],cP h,by rw[In h]at hb;simpa using hb⟩
 ):σ:=h
theorem Bi{p:o8->Bool}(h:k<Lp l)(hb:p (l[k]?.getD (0,0))=false):l.all p=false:=by
 exact Uq
def FC(h:σ:=by
 exact⟨0,I O,rfl,I rfl,I So⟩
 ):σ:=h
def gd(h:σ:=by
 go_wp2;go_ret;exact⟨ag HF.symm,HX.trans C9⟩
 ):σ:=h
def R3(h:σ:=by
 go_wp2_with rfl;refine HC.mono ?_;rintro e w2 ⟨rfl,C9⟩;go_wp2_with rfl;refine dk ?_;exact⟨k+1,I (l8 HK.o),by go_num,HT,I (HX.trans C9)⟩
 ):σ:=h
def SQ(h:σ:=by
 have HT:=I (show l.take k=l from aP eo);go_wp2;go_ret;exact⟨ag MJ,HX⟩
 ):σ:=h
theorem kA{w:J}{a:o6}{cap:Nat}(h:i8 w a n cap l):
 f9 169 #[FB a n cap] w (ato (Hf l)):=by
 have⟨y7,y8⟩:=h.ath;have HL:=I h.hlen;have Z:=I h;unfold f9;go_in
 go_wp2
 go_loopg [3] n (λgk K wr=>∃k:Nat,e9 (gk+k=n)/\K=U k/\e9 ((l.take k).all A5=true)/\e9 (D4 w wr))
 ·exact FC
 obtain⟨k,HK,rfl,HA,HX⟩:=hrel;by_cases hlt:k<n
 ·obtain⟨b,off,x,y,rfl,H,Fo,FQ⟩:=(Z.ext HX).at hlt;have HC:=I (cL x y wr);cases hb:A5 (x,y)
  all_goals
   rw[hb]at HC
  ·have HF:e9 (Hf l=false):=Bi CI (by rw[H];exact hb);go_wp2_with rfl;refine i6 HC λw2 C9=>?_;exact gd
  have HT:=I (show(l.take (k+1)).all A5=true by rw[CY CI,HA.o,H,hb];rfl);exact R3
 exact SQ
def D2(r:o8):o8:=(-r.1,r.2)
structure Tb  where
 rows:List (o3)
 basis:o7
 A':Int
def Tb.row(t:Tb)(i:Nat):o3:=t.rows[i]?.getD []
def Tb.at(t:Tb)(i j:Nat):o8:=(t.row i)[j]?.getD (0,0)
variable{t:Tb}
def JF(t:Tb):Bool :=
 A8 t.A' 0 1000&&(decide (Lp t.basis=Lp t.rows)&&(t.basis.all (λb=>A8 b 0 (t.A'+Lp t.rows-1))&&t.rows.all (λr=>decide ((Lp r:Int)=t.A'+Lp t.rows+1))))
def PY(A:o3)(p:o8)(i:Nat):Option (Int×Int):=if(Hu (A[i]?.getD (0,0)) p).2=true then some (Hu (A[i]?.getD (0,0)) p).1 else none
def Lq(A:o3)(p:o8):Option (o3):=Nm (PY A p) A.length
def Yb(t:Tb)(row Fm:Nat)(main:o3)(st:List (o3))(i:Nat):Option (List (o3)) :=
 if(i=row∨t.at i Fm=(0,1)) then some st else(Iw (t.row i) (D2 (t.at i Fm)) main).map λr=>st.set i r
def H9(t:Tb)(row Fm:Nat)(main:o3):Nat->Option (List (o3))
 | 0=>some (t.rows.set row main)
 | k+1=>(H9 t row Fm main k).bind λst=>Yb t row Fm main st k
def iV(t:Tb)(row Fm:Nat):Option Tb :=
 (Lq (t.row row) (t.at row Fm)).bind λmain=>(H9 t row Fm main (Lp t.rows)).map λrs=>⟨rs,t.basis.set row (Fm:Int),t.A'⟩
def fj(t:Tb)(row Fm:Int):Bool:=JF t&&(A8 row 0 (Lp t.rows-1)&&A8 Fm 0 (t.A'+Lp t.rows-1))
def bW(t:Tb)(row Fm:Int):Option Tb:=if fj t row Fm=true then iV t row.toNat Fm.toNat else none
def dX(t:Tb)(cost:o3):Nat->Option (o3)
 | 0=>some (cost++[(0,1)])
 | k+1=>(dX t cost k).bind λout=>Iw out (D2 (cost[(t.basis[k]?.getD 0).toNat]?.getD (0,0))) (t.row k)
def sp(t:Tb)(cost:o3):Bool:=JF t&&(decide ((Lp cost:Int)=t.A'+Lp t.rows)&&Hf cost)
def dE(t:Tb)(cost:o3):Option (o3):=if sp t cost=true then dX t cost (Lp t.rows) else none
def IQ(t:Tb):Nat->o3
 | 0=>List.replicate (t.A'.toNat+Lp t.rows) (0,1)
 | k+1=>(IQ t k).set (t.basis[k]?.getD 0).toNat (t.at k (t.A'.toNat+Lp t.rows))
def H8(t:Tb):o3:=if JF t=true then IQ t (Lp t.rows) else []
def gM(c:o8):Bool:=decide (D' c (0,1)<0)
def bQ(costs:o3)(last:Int):Int:=if(Lp costs:Int)<last then -1 else di gM (costs.take last.toNat)
def eK(t:Tb)(Fm:Nat)(st:Int×(Int×Int))(i:Nat):Int×(Int×Int) :=
 if D' (t.at i Fm) (0,1)<=0 then st
 else if(Hu (t.at i (t.A'.toNat+Lp t.rows)) (t.at i Fm)).2=false then st
 else if st.1<0∨D' (Hu (t.at i (t.A'.toNat+Lp t.rows)) (t.at i Fm)).1 st.2<0∨(D' (Hu (t.at i (t.A'.toNat+Lp t.rows)) (t.at i Fm)).1 st.2=0/\t.basis[i]?.getD 0<t.basis[st.1.toNat]?.getD 0)
  then((i:Int),(Hu (t.at i (t.A'.toNat+Lp t.rows)) (t.at i Fm)).1) else st
def cX(t:Tb)(Fm:Nat):Nat->Int×(Int×Int)
 | 0=>(-1,(0,0))
 | k+1=>eK t Fm (cX t Fm k) k
def dN(t:Tb)(Fm:Int):Int:=if(JF t&&A8 Fm 0 (t.A'+Lp t.rows-1))=true then(cX t Fm.toNat (Lp t.rows)).1 else -1
structure Ph  where
 t:Tb
 left:Nat
 costs:o3
 Fm:Int
def bD(cost:o3):Nat->Tb->Option Ph
 | f,t=>match dE t cost with
   | none=>none
   | some cs =>
     if bQ cs t.A'<0 then some ⟨t,f,cs,-1⟩
     else if dN t (bQ cs t.A')<0 then some ⟨t,f,cs,bQ cs t.A'⟩
     else match f with
      | 0=>none
      | f+1=>match bW t (dN t (bQ cs t.A')) (bQ cs t.A')with
        | none=>none
        | some t'=>bD cost f t'
def Kj(c:o8):Bool:=decide (c≠(0,1))
def jM(n:Nat)(s:Tb×Nat)(k:Nat):Option (Tb×Nat) :=
 if s.1.basis[k]?.getD 0<n then some s
 else if di Kj ((s.1.row k).take n)<0 then some s
 else match s.2 with
  | 0=>none
  | f+1=>(bW s.1 k (di Kj ((s.1.row k).take n))).map λt=>(t,f)
def bP(n:Nat)(s:Tb×Nat):Nat->Option (Tb×Nat)
 | 0=>some s
 | k+1=>(bP n s k).bind λs'=>jM n s' k
def IW(b:Int):Int:=if b<0 then -1 else 1
def tS(m i:Nat):o3:=(List.range m).map λk=>if k=i then(1,1) else(0,1)
def dH(A:o4)(B:o7)(i:Nat):o3 :=
 ((A[i]?.getD []).map λx=>(IW (B[i]?.getD 0)*x,1))++tS (Lp A) i++[(IW (B[i]?.getD 0)*B[i]?.getD 0,1)]
def cG(A:o4)(B:o7)(n:Nat):Tb:=⟨(List.range (Lp A)).map (dH A B),(List.range (Lp A)).map λi=>((n+i:Nat):Int),n⟩
def IB(A B:o3):Nat->Option (Int×Int)
 | 0=>some (0,1)
 | k+1=>(IB A B k).bind λs=>if(cn (A[k]?.getD (0,0)) (B[k]?.getD (0,0))).2=true/\(F6 s (cn (A[k]?.getD (0,0)) (B[k]?.getD (0,0))).1).2=true
     then some (F6 s (cn (A[k]?.getD (0,0)) (B[k]?.getD (0,0))).1).1 else none
def Fs(A B:o3):Option (Int×Int):=if Lp A=Lp B then IB A B (Lp A) else none
def FT(A:o4)(B:o7)(C:o3):Bool :=
 decide (Lp C<=70)&&(decide (Lp A<=8)&&(decide (Lp B=Lp A)&&(Hf C&&(A.all (λr=>decide (Lp r=Lp C)&&r.all (A8 · (-5000) 5000))&&B.all (A8 · (-5000) 5000)))))
def FV(A:o4)(j:Nat):o7:=A.map λr=>r[j]?.getD 0
def LK(x:o3):Bool:=x.all λr=>A5 r&&decide (0<=r.1)
def es(A:o4)(x:o3)(B:o7):Bool:=(List.range (Lp A)).all λi=>decide (Fs (aI (A[i]?.getD [])) x=some (B[i]?.getD 0,1))
def eQ(A:o4)(B:o7)(n:Nat)(x:o3):Bool:=decide (Lp x=n)&&(LK x&&es A x B)
structure I'  where
 status:Int
 X:o3
 Y:o3
 Kc:o3
 value:o8
 TD:Int
deriving DecidableEq
def bh(s:Int):I':=⟨s,[],[],[],(0,0),0⟩
def az(A:o4)(Y C:o3)(j:Nat):Bool :=
 match Fs Y (aI (FV A j))with
 | none=>false
 | some v=>(FD (C[j]?.getD (0,0)) v).2&&decide (0<=(FD (C[j]?.getD (0,0)) v).1.1)
def bL(A:o4)(Y C:o3)(j:Nat):Bool :=
 match Fs Y (aI (FV A j))with
 | none=>false
 | some v=>decide (0<=D' (C[j]?.getD (0,0)) v)
def ku(B:o7)(C:o3)(r:I'):Bool :=
 match Fs C r.X,Fs r.Y (aI B)with
 | some x,some y=>decide (x=y)&&decide (x=r.value)
 | _,_=>false
def pO(A:o4)(B:o7)(n:Nat)(Y:o3):Bool :=
 (List.range n).all (λj=>match Fs Y (aI (FV A j))with|none=>false|some v=>decide (v.1<=0))&&(match Fs Y (aI B)with|none=>false|some v=>decide (0<v.1))
def TJ(A:o4)(B:o7)(C:o3)(Kc:o3):Bool :=
 decide (Lp Kc=Lp C)&&(LK Kc&&(es A Kc (List.replicate (Lp B) 0)&&(match Fs C Kc with|none=>false|some v=>decide (v.1<0))))
def aQ(bound:o4->o3->o3->Nat->Bool)(A:o4)(B:o7)(C:o3)(r:I'):Bool :=
 if r.status=1 then eQ A B (Lp C) r.X&&(decide (Lp r.Y=Lp B)&&((List.range (Lp C)).all (bound A r.Y C)&&ku B C r))
 else if r.status=2 then decide (Lp r.Y=Lp B)&&pO A B (Lp C) r.Y
 else if r.status=3 then eQ A B (Lp C) r.X&&TJ A B C r.Kc
 else false
def Je(b:Int)(y:o8):o8:=if b<0 then D2 y else y
def gY(B:o7)(base:o8)(cs:o3)(n i:Nat):Option (Int×Int) :=
 if(FD base (cs[n+i]?.getD (0,0))).2=true then some (Je (B[i]?.getD 0) (FD base (cs[n+i]?.getD (0,0))).1) else none
def eP(B:o7)(cs:o3)(n i:Nat):o8:=Je (B[i]?.getD 0) (D2 (cs[n+i]?.getD (0,0)))
def H5(t:Tb)(n Fm:Nat):Nat->o3
 | 0=>(List.range n).map λj=>if j=Fm then(1,1) else(0,1)
 | k+1=>if t.basis[k]?.getD 0<n then(H5 t n Fm k).set (t.basis[k]?.getD 0).toNat (D2 (t.at k Fm)) else H5 t n Fm k
def eT(n m:Nat):o3:=List.replicate n (0,1)++List.replicate m (1,1)
def dA(C:o3)(m:Nat):o3:=C++List.replicate m (0,1)
def Ih(A:o4)(B:o7)(C:o3):Option I' :=
 (bD (eT (Lp C) (Lp B)) 1000 (cG A B (Lp C))).bind λp1 =>
   if(p1.costs[Lp C+B.length]?.getD (0,0)).1<0 then
    (Nm (gY B (1,1) p1.costs (Lp C)) (Lp B)).map λY=>⟨2,[],Y,[],(0,0),1000-p1.left⟩
   else(bP (Lp C) (p1.t,p1.left) (Lp B)).bind λs=>(bD (dA C (Lp B)) s.2 s.1).map λp2 =>
    if 0<=p2.Fm then⟨3,(H8 p2.t).take (Lp C),[],H5 p2.t (Lp C) p2.Fm.toNat (Lp B),(0,0),1000-p2.left⟩
    else⟨1,(H8 p2.t).take (Lp C),(List.range (Lp B)).map (eP B p2.costs (Lp C)),[],D2 (p2.costs[Lp C+B.length]?.getD (0,0)),1000-p2.left⟩
def bH(bound:o4->o3->o3->Nat->Bool)(A:o4)(B:o7)(C:o3):I' :=
 if FT A B C=true then
  match Ih A B C with
  | none=>bh 4
  | some r=>if aQ bound A B C r=true then r else bh 4
 else bh 0
def Fr(p:o8)(x D:Int):Prop:=A5 p=true/\0<D/\p.1*D=x*p.2
theorem lC{p:o8}(h:A5 p=true):gI p.1 p.2=1:=by
 simp only[A5,cM,cq]at h;exact h.2.2
theorem pU{p:o8}(h1:1<=p.2)(h2:p.2<=1000000000)(h3:-1000000000<=p.1)(h4:p.1<=1000000000)(h5:gI p.1 p.2=1):A5 p=true:=by
 simp only[A5,A8,cM,cq];omega
theorem kS(a b:Int):gI a b=1↔Nat.Coprime a.natAbs b.natAbs:=by unfold gI Int.gcd Nat.Coprime;omega
theorem yq{a b c:Int}(hb:0<b)(hd:0<d)(Z:gI a b=1)(K:gI c d=1)(h:a*d=c*b):a=c/\b=d:=by
 rw[kS]at Z K;have H:a.natAbs*d.natAbs=c.natAbs*b.natAbs:=by rw[<-S3,<-S3,h]
 have e1:b.natAbs∣d.natAbs:=Mf Z.symm ⟨c.natAbs,by rw[H,ga]⟩;have e2:d.natAbs∣b.natAbs:=Mf K.symm ⟨a.natAbs,by rw[<-H,ga]⟩;have e3:b=d:=by have:=Nat.dvd_antisymm e1 e2;omega
 subst e3;exact⟨WG O h,rfl⟩
theorem Fr.eq{p q:o8}{y E:Int}(h:Fr p x D)(k:Fr q y E)(e:x*E=y*D):p=q:=by
 obtain⟨Z,h2,h3⟩:=h;obtain⟨k1,k2,k3⟩:=k;have hb:=(aV Z).1;have kb:=(aV k1).1;have H:(p.1*q.2)*(D*E)=(q.1*p.2)*(D*E):=by grind
 have K:D*E≠0:=bB O O;have:=yq O O (lC Z) (lC k1) (WG K H);exact Prod.ext this.1 this.2
theorem Fr.int(c:Int)(h:-1000000000<=c)(H:c<=1000000000):Fr (c,1) c 1 :=
 ⟨pU j9 j9 h H (by rw[kS];simp),by omega,rfl⟩
theorem Fr.self{p:o8}(h:A5 p=true):Fr p p.1 p.2:=⟨h,by have:=(aV h).1;omega,rfl⟩
theorem qO(n d:Int)(hd:0<d):1<=gI n d/\n=gI n d*n.tdiv (gI n d)/\d=gI n d*d.tdiv (gI n d)/\0<d.tdiv (gI n d):=by
 have hg:=oO n (show d≠0 by omega);have⟨k,H⟩:=ua n d;have⟨m,hm⟩:=pK n d;have Z:n.tdiv (gI n d)=k:=by
    conv=>lhs;arg 1;rw[H]
    exact jc _ O
 have K:d.tdiv (gI n d)=m:=by
    conv=>lhs;arg 1;rw[hm]
    exact jc _ O
 rw[Z,K];refine⟨hg,H,hm,?_⟩;rcases L3 0 m with h|h
 ·exact h
 exact Og
theorem vS{n:Int}(hd:0<d)(hn:-1000000000000000000<=n/\n<=1000000000000000000)(hd':d<=1000000000000000000):aN n d=Ik (n.tdiv (gI n d),d.tdiv (gI n d)):=by
 unfold aN;rw[f8 (by simp[A8];omega),f8 O]
theorem Cw{n:Int}(hd:0<d)(hD:0<D)(hn:-1000000000000000000<=n/\n<=1000000000000000000)(Z:d<=1000000000000000000)(hx:-1000000000000000000<=x/\x<=1000000000000000000)(hD':D<=1000000000000000000)(e:n*D=x*d):aN n d=aN x D:=by
 rw[vS hd hn Z,vS hD hx hD'];have⟨g1,g2,g3,g4⟩:=qO n d hd;have⟨k1,k2,k3,k4⟩:=qO x D hD;have H:(n.tdiv (gI n d)*D.tdiv (gI x D))*(gI n d*gI x D)=(x.tdiv (gI x D)*d.tdiv (gI n d))*(gI n d*gI x D):=by
  have a1:(n.tdiv (gI n d)*D.tdiv (gI x D))*(gI n d*gI x D)=(gI n d*n.tdiv (gI n d))*(gI x D*D.tdiv (gI x D)):=by grind
  have a2:(x.tdiv (gI x D)*d.tdiv (gI n d))*(gI n d*gI x D)=(gI x D*x.tdiv (gI x D))*(gI n d*d.tdiv (gI n d)):=by grind
  rw[a1,a2,<-g2,<-g3,<-k2,<-k3,e]
 have K:gI n d*gI x D≠0:=bB O O;have:=yq g4 k4 (oN n d hd) (oN x D hD) (WG K H);rw[this.1,this.2]
theorem nK{n:Int}(H:0<d)(h:(aN n d).2=true):Fr (aN n d).1 n d:=by
 refine⟨jR h,H,?_⟩;unfold aN at h⊢;split at h
 ·simp at h
 next h0 =>
 rw[f8 h0];split at h
 ·omega
 next h1 =>
 rw[f8 h1];unfold Ik at h⊢;split at h
 ·next h2 =>
  rw[i7 h2];have⟨g1,K,g3,g4⟩:=qO n d H;simp only;generalize n.tdiv (gI n d)=k at *;generalize d.tdiv (gI n d)=m at *;generalize gI n d=g at *;subst K;grind
 simp at h
theorem rB{n:Int}(hd:0<d)(hn:-1000000000000000000<=n/\n<=1000000000000000000)(H:d<=1000000000000000000)(Z:0<D)(K:D<=1000000000)(hx:-1000000000<=x/\x<=1000000000)(e:n*D=x*d):
 ∃r,aN n d=(r,true)/\Fr r x D:=by
 have h1:=Cw hd Z hn H O O e;have h2:=XQ (n:=x) (d:=D) O K hx.1 hx.2;exact⟨(aN x D).1,by rw[h1,<-h2],nK Z h2⟩
theorem Y0{p q:Int}(h:-1000000000<=p/\p<=1000000000)(k:-1000000000<=q/\q<=1000000000):-1000000000000000000<=p*q/\p*q<=1000000000000000000:=Yq h.1 h.2 k.1 k.2
theorem Fr.add{p q:o8}{y E z F:Int}(h:Fr p x D)(k:Fr q y E)(hF:0<F)(H:F<=1000000000)(hz:-1000000000<=z/\z<=1000000000)(hs:-1000000000000000000<=p.1*q.2+q.1*p.2/\p.1*q.2+q.1*p.2<=1000000000000000000)(e:(x*E+y*D)*F=z*(D*E)):∃r,F6 p q=(r,true)/\Fr r z F:=by
 obtain⟨Z,h2,h3⟩:=h;obtain⟨k1,k2,k3⟩:=k;have hb:=aV Z;have kb:=aV k1;have hp:0<p.2*q.2:=Int.mul_pos O O;have K:D*E≠0:=bB O O;unfold F6;rw[i7 (by rw[Z,k1];rfl)];refine rB hp hs (Y0 ⟨by omega,hb.2.1⟩ ⟨by omega,kb.2.1⟩).2 hF H hz ?_;refine WG K ?_;have:(p.1*q.2+q.1*p.2)*F*(D*E)=((p.1*D)*(q.2*E)+(q.1*E)*(p.2*D))*F:=by grind
 rw[this,h3,k3];have:(x*p.2*(q.2*E)+y*q.2*(p.2*D))*F=((x*E+y*D)*F)*(p.2*q.2):=by grind
 rw[this,e];grind
theorem Fr.size{p:o8}(h:Fr p x D):p.2<=D/\p.1.natAbs<=x.natAbs:=by
 obtain⟨K,h2,Z⟩:=h;have hb:=aV K;have hc:=lC K;rw[kS]at hc;have H:p.1.natAbs*D.natAbs=x.natAbs*p.2.natAbs:=by rw[<-S3,<-S3,Z]
 have e1:p.2.natAbs∣D.natAbs:=Mf hc.symm ⟨x.natAbs,by rw[H,ga]⟩;have e2:=Nat.le_of_dvd O e1;refine⟨by omega,?_⟩;have e3:p.1.natAbs*p.2.natAbs<=x.natAbs*p.2.natAbs:=by rw[<-H];exact Nat.mul_le_mul_left _ e2
 exact Nat.le_of_mul_le_mul_right e3 O
def val(r:o8):Rat:=(r.1:Rat)/(r.2:Rat)
theorem fL(h:d≠0):(d:Rat)≠0:=by exact_mod_cast h
theorem WN{r:o8}{n:Int}(h:Fr r n d):val r=(n:Rat)/(d:Rat):=by
 obtain⟨K,h2,H⟩:=h;have hb:=(aV K).1;have e:(r.1:Rat)*(d:Rat)=(n:Rat)*(r.2:Rat):=by exact_mod_cast H
 have a:=fL (show d≠0 by omega);have b:=fL (show r.2≠0 by omega);unfold val
 grind
theorem Bf{p q:o8}(K:A5 p=true)(H:A5 q=true)(h:val p=val q):p=q:=by
 have hb:=(aV K).1;have kb:=(aV H).1;have a:=fL (show p.2≠0 by omega);have b:=fL (show q.2≠0 by omega);have e:(p.1:Rat)*(q.2:Rat)=(q.1:Rat)*(p.2:Rat):=by unfold val at h;grind
 have e':p.1*q.2=q.1*p.2:=by exact_mod_cast e
 have:=yq O O (lC K) (lC H) e';exact Prod.ext this.1 this.2
theorem pz{p q:o8}(K:A5 p=true)(H:A5 q=true):0<=D' p q↔val q<=val p:=by
 have hb:=(aV K).1;have kb:=(aV H).1;have a:(0:Rat)<(p.2:Rat):=by exact_mod_cast (show 0<p.2 by omega)
 have b:(0:Rat)<(q.2:Rat):=by exact_mod_cast (show 0<q.2 by omega)
 have e:0<=D' p q↔q.1*p.2<=p.1*q.2:=by
  unfold D';rw[i7 (by rw[K,H];rfl)]
  split
  ·omega
  split<;>omega
 rw[e];have e2:q.1*p.2<=p.1*q.2↔(q.1:Rat)*p.2<=(p.1:Rat)*q.2:=by
  constructor
  ·intro h;exact_mod_cast h
  intro h;exact_mod_cast h
 rw[e2];have x1:(p.1:Rat)=val p*p.2:=by unfold val;grind
 have x2:(q.1:Rat)=val q*q.2:=by unfold val;grind
 have VF:(0:Rat)<(p.2:Rat)*q.2:=Rat.mul_pos a b;have x3:(q.1:Rat)*p.2=val q*((p.2:Rat)*q.2):=by rw[x2];grind
 have Z:(p.1:Rat)*q.2=val p*((p.2:Rat)*q.2):=by rw[x1];grind
 rw[x3,Z];exact⟨λh=>Rat.le_of_mul_le_mul_right h VF,λh=>Rat.mul_le_mul_of_nonneg_right h (by grind)⟩
theorem jd{p:o8}(K:A5 p=true):0<=p.1↔0<=val p:=by
 have hb:=(aV K).1;have a:(0:Rat)<(p.2:Rat):=by exact_mod_cast (show 0<p.2 by omega)
 have H:(p.1:Rat)=val p*p.2:=by unfold val;grind
 have e:0<=p.1↔(0:Rat)*p.2<=val p*p.2:=by
  rw[<-H];constructor
  ·intro h;have:(0:Rat)<=(p.1:Rat):=by exact_mod_cast h
   grind
  intro h;have:(0:Rat)<=(p.1:Rat):=by grind
  exact_mod_cast this
 rw[e];exact⟨λh=>Rat.le_of_mul_le_mul_right h a,λh=>Rat.mul_le_mul_of_nonneg_right h (by grind)⟩
theorem fF(x:Int):val (x,1)=(x:Rat):=by unfold val;grind
theorem iG(r:o8):val (D2 r)=- val r:=by
 unfold val D2;have:((-r.1:Int):Rat)=- (r.1:Rat):=by exact_mod_cast rfl
 simp only[this];grind
theorem ew(r:o8):A5 (D2 r)=A5 r:=lD r.1 r.2
theorem up(n b:Int):A8 (-n) (-b) b=A8 n (-b) b:=by
 unfold A8;rw[uu];simp;omega
theorem yH(n d:Int):aN (-n) (-d)=aN n d:=by
 unfold aN;have h1:=up n 1000000000000000000;have Z:=up d 1000000000000000000;rw[kI,pL,h1,Z];by_cases K:d=0
 ·subst K;simp
 have:-d≠0:=O;simp only[K,this,false_or];split
 ·rfl
 by_cases H:d<0
 ·rw[f8 O,i7 H];simp[XK,B1]
 rw[i7 O,f8 H];simp[XK,B1]
theorem vU(n d:Int):aN (-n) d=(D2 (aN n d).1,(aN n d).2):=by
 unfold aN;have H:=up n 1000000000000000000;rw[kI,H];have hc:∀a b:Int,Ik (-a,b)=(D2 (Ik (a,b)).1,(Ik (a,b)).2):=by
  intro a b;unfold Ik;rw[lD];split<;>rfl
 split
 ·rfl
 split
 ·rw[XK,hc]
 rw[XK,hc]
theorem pA{n:Int}(h:(aN n d).2=true):d≠0/\A5 (aN n d).1=true/\val (aN n d).1=(n:Rat)/(d:Rat):=by
 have H:d≠0:=by
  intro K;subst K;simp[aN]at h
 refine⟨H,jR h,?_⟩;rcases Int.lt_or_gt_of_ne H with hlt|NL
 ·have e:=yH n d;rw[<-e]at h⊢;have:=WN (nK O h);rw[this];have a:=fL H;have e1:((-n:Int):Rat)=- (n:Rat):=by exact_mod_cast rfl
  have Z:((-d:Int):Rat)=- (d:Rat):=by exact_mod_cast rfl
  rw[e1,Z];grind
 exact WN (nK NL h)
theorem fg{a b:Bool}(h:(a&&b)=true):a=true/\b=true:=by simpa using h
theorem pV(h:(F6 a b).2=true):A5 a=true/\A5 b=true/\A5 (F6 a b).1=true/\val (F6 a b).1=val a+val b:=by
 unfold F6 at h⊢;split at h
 ·next h1 =>
  rw[i7 h1];have⟨H,hb⟩:=fg h1;have⟨h2,Z,K⟩:=pA h;refine⟨H,hb,Z,?_⟩;rw[K];have e1:=fL (show a.2≠0 by have:=(aV H).1;omega);have e2:=fL (show b.2≠0 by have:=(aV hb).1;omega);unfold val;simp only[Rat.intCast_add,N2]
  grind
 simp at h
theorem pW(h:(FD a b).2=true):A5 a=true/\A5 b=true/\A5 (FD a b).1=true/\val (FD a b).1=val a-val b:=by
 rw[<-zp]at h⊢;have⟨h1,H,Z,K⟩:=pV h;rw[lD]at H;refine⟨h1,H,Z,?_⟩;rw[K];have:=iG b;unfold D2 at this;rw[this];grind
theorem Bg(h:(cn a b).2=true):A5 a=true/\A5 b=true/\A5 (cn a b).1=true/\val (cn a b).1=val a*val b:=by
 unfold cn at h⊢;split at h
 ·next h1 =>
  rw[i7 h1];have⟨H,hb⟩:=fg h1;have⟨h2,Z,K⟩:=pA h;refine⟨H,hb,Z,?_⟩;rw[K];have e1:=fL (show a.2≠0 by have:=(aV H).1;omega);have e2:=fL (show b.2≠0 by have:=(aV hb).1;omega);unfold val;simp only[N2]
  grind
 simp at h
theorem Rb(h:(Hu a b).2=true):A5 a=true/\A5 b=true/\A5 (Hu a b).1=true/\val b≠0/\val (Hu a b).1=val a/val b:=by
 unfold Hu at h⊢;split at h
 ·next h1 =>
  rw[i7 h1];have⟨H,hb⟩:=fg h1;have⟨K,h3,Z⟩:=pA h;have e1:=fL (show a.2≠0 by have:=(aV H).1;omega);have e2:=fL (show b.2≠0 by have:=(aV hb).1;omega);have e3:=fL (show b.1≠0 by intro h0;rw[h0]at K;simp at K);refine⟨H,hb,h3,?_,?_⟩
  ·unfold val;grind
  rw[Z];unfold val;simp only[N2]
  grind
 simp at h
theorem DZ(a b:o8):cn a b=cn b a:=by
 unfold cn;rw[Qa,vT a.1,vT a.2]
theorem Yr(a b:o8):cn a (D2 b)=(D2 (cn a b).1,(cn a b).2):=by
 unfold cn;rw[ew];split
 ·have:a.1*(D2 b).1=-(a.1*b.1):=by unfold D2;simp only;grind
  rw[this,vU];rfl
 rfl
theorem Tu(a b:o8):F6 (D2 a) (D2 b)=(D2 (F6 a b).1,(F6 a b).2):=by
 unfold F6;rw[ew,ew];split
 ·have:(D2 a).1*(D2 b).2+(D2 b).1*(D2 a).2=-(a.1*b.2+b.1*a.2):=by unfold D2;simp only;grind
  rw[this,vU];rfl
 rfl
def B5(f:Nat->Rat):Nat->Rat
 | 0=>0
 | k+1=>B5 f k+f k
theorem lv(f g:Nat->Rat)(c:Rat):∀m,B5 (λk=>f k+c*g k) m=B5 f m+c*B5 g m
 | 0=>by simp[B5];grind
 | m+1=>by simp only[B5,lv f g c m];grind
theorem bX{f g:Nat->Rat}:∀{m},(∀k,k<m->f k=g k)->B5 f m=B5 g m
 | 0,_=>rfl
 | m+1,h=>by simp only[B5,bX (m:=m) (λk hk=>h k O),h m O]
theorem fR{f:Nat->Rat}:∀{m},(∀k,k<m->f k=0)->B5 f m=0
 | 0,_=>rfl
 | m+1,h=>by simp only[B5,fR (m:=m) (λk hk=>h k O),h m O];grind
theorem zt{f:Nat->Rat}{i:Nat}:∀{m},i<m->(∀k,k<m->k≠i->f k=0)->B5 f m=f i
 | 0,hi,_=>absurd hi O
 | m+1,hi,h=>by
   by_cases H:i=m
   ·subst H;simp only[B5];rw[fR (λk K=>h k O O)];grind
   simp only[B5];rw[zt (m:=m) O (λk K Z=>h k O Z),h m O O];grind
def yB(n m:Nat)(T0:Nat->Nat->Rat)(c f:Nat->Rat):Prop:=∀j,j<n+m+1->f j-c j=B5 (λk=>(f (n+k)-c (n+k))*T0 k j) m
theorem yB.add{c f g h:Nat->Rat}{k:Rat}(Z:yB n m T0 c f)(hg:yB n m T0 (λ_=>0) g)(K:∀j,j<n+m+1->h j=f j+k*g j):yB n m T0 c h:=by
 intro j H;have h1:=Z j H;have h2:=hg j H;rw[K j H];have e:B5 (λi=>(h (n+i)-c (n+i))*T0 i j) m=B5 (λi=>(f (n+i)-c (n+i))*T0 i j+k*((g (n+i)-0)*T0 i j)) m :=
  bX λi hi=>by rw[K (n+i) O];grind
 rw[e,lv,<-h1,<-h2];grind
theorem yB.scale{g h:Nat->Rat}{k:Rat}(hg:yB n m T0 (λ_=>0) g)(K:∀j,j<n+m+1->h j=k*g j):yB n m T0 (λ_=>0) h:=by
 have Z:yB n m T0 (λ_=>0) (λ_=>0):=by
  intro j H;rw[fR (λk hk=>by grind)];grind
 exact yB.add Z hg (k:=k) (λj H=>by rw[K j H];grind)
def B8(r:o3)(j:Nat):Rat:=val (r[j]?.getD (0,0))
def nD(N:Nat)(r:o3):Prop:=Lp r=N/\∀j,j<N->A5 (r[j]?.getD (0,0))=true
theorem wj{A B:o3}{k:o8}(h:Iw A k B=some r):Lp A=Lp B/\Lp r=Lp A/\∀j,j<Lp A->A5 (r[j]?.getD (0,0))=true/\B8 r j=B8 A j+val k*B8 B j:=by
 unfold Iw at h;split at h
 ·next hl =>
  refine⟨hl,cZ h,λj K=>?_⟩;have hs:=iF h j K;unfold Ov at hs;split at hs
  ·next h2 =>
   simp only[Pi]at hs;obtain⟨e1,Z⟩:=h2;obtain⟨_,_,_,H⟩:=Bg e1;obtain⟨_,_,a3,a4⟩:=pV Z;rw[<-hs];refine⟨a3,?_⟩;unfold B8;rw[<-hs,a4,H]
  cases hs
 cases h
theorem Dm{A:o3}{p:o8}(h:Lq A p=some r):Lp r=Lp A/\∀j,j<Lp A->A5 (r[j]?.getD (0,0))=true/\val p≠0/\B8 r j=B8 A j/val p:=by
 refine⟨cZ h,λj H=>?_⟩;have hs:=iF h j H;unfold PY at hs;split at hs
 ·next h2 =>
  simp only[Pi]at hs;obtain⟨_,_,d3,Z,K⟩:=Rb h2;rw[<-hs];refine⟨d3,Z,?_⟩;unfold B8;rw[<-hs,K]
 cases hs
structure Gy(n m:Nat)(T0:Nat->Nat->Rat)(t:Tb):Prop where
 A':t.A'=n
 len:t.rows.length=m
 KN:t.basis.length=m
 bas:∀b∈t.basis,0<=b/\b<n+m
 row:∀i,i<m->nD (n+m+1) (t.row i)
 rel:∀i,i<m->yB n m T0 (λ_=>0) (B8 (t.row i))
theorem Gy.ok(h:Gy n m T0 t)(hn:n<=1000):JF t=true:=by
 unfold JF;have hc:=h.A';have H:=h.len;simp only[cM,A8,cq,fp];refine⟨by omega,by rw[h.KN,H],λb hb=>?_,λr hr=>?_⟩
 ·have:=h.bas b hb;omega
 obtain⟨i,hi,rfl⟩:=ZW.1 hr;have:=(h.row i O).1;unfold Tb.row at this;rw[In hi,NE]at this;omega
theorem AU{rs:List (o3)}{i:Nat}(hi:i<Lp rs):(rs.set i r)[k]?.getD []=if k=i then r else rs[k]?.getD []:=by
 by_cases h:k=i
 ·subst h;rw[i7 rfl];simp[hi]
 rw[f8 h,pk (λe=>h e.symm)]
theorem vP{n m:Nat}{T0:Nat->Nat->Rat}{t:Tb}(h:Gy n m T0 t){row Fm:Nat}(hr:row<m){main:o3}(Qr:nD (n+m+1) main)(Vx:yB n m T0 (λ_=>0) (B8 main)):
 ∀{k:Nat} {st:List (o3)},k<=m->H9 t row Fm main k=some st->Lp st=m/\∀i,i<m->nD (n+m+1) (st[i]?.getD [])/\yB n m T0 (λ_=>0) (B8 (st[i]?.getD []))
 | 0,st,hk,e=>by
   simp only[H9,Pi]at e;subst e;refine⟨by rw[km,h.len],λi hi=>?_⟩;rw[AU (by rw[h.len];exact hr)]
   split
   ·exact⟨Qr,Vx⟩
   exact⟨h.row i hi,h.rel i hi⟩
 | k+1,st,hk,e=>by
   simp only[H9]at e;cases e0:H9 t row Fm main k with
   | none=>rw[e0]at e;cases e
   | some s0 =>
     rw[e0]at e;simp only[kx]at e;have⟨K,hs⟩:=vP h hr Qr Vx O e0;unfold Yb at e
     split at e
     ·simp only[Pi]at e;subst e;exact⟨K,hs⟩
     cases e1:Iw (t.row k) (D2 (t.at k Fm)) main with
     | none=>rw[e1]at e;cases e
     | some r =>
       rw[e1]at e;simp only[tv,Pi]at e;subst e;have⟨s1,s2,s3⟩:=wj e1;have H:=(h.row k O).1;refine⟨by rw[km,K],λi hi=>?_⟩;rw[AU (by rw[K];omega)]
       split
       ·refine⟨⟨by rw[s2,H],λj Z=>(s3 j (by rw[H];exact Z)).1⟩,?_⟩;exact yB.add (h.rel k O) Vx (k:=val (D2 (t.at k Fm))) (λj Z=>(s3 j (by rw[H];exact Z)).2)
       exact hs i hi
theorem ia{t':Tb}(h:Gy n m T0 t){row Fm:Int}(e:bW t row Fm=some t'):Gy n m T0 t':=by
 unfold bW at e;split at e
 ·next ha =>
  unfold fj at ha;simp only[cM,A8,cq]at ha;have hc:=h.A';have hl:=h.len;have A4:row.toNat<m:=O;have Nj:Fm.toNat<n+m:=O;unfold iV at e;cases Z:Lq (t.row row.toNat) (t.at row.toNat Fm.toNat)with
  | none=>rw[Z]at e;cases e
  | some main =>
    rw[Z]at e;simp only[kx]at e;cases K:H9 t row.toNat Fm.toNat main (Lp t.rows) with
    | none=>rw[K]at e;cases e
    | some rs =>
      rw[K]at e;simp only[tv,Pi]at e;subst e;have⟨d1,d2⟩:=Dm Z;have LV:=(h.row _ A4).1;have Qr:nD (n+m+1) main:=⟨by rw[d1,LV],λj H=>(d2 j (by rw[LV];exact H)).1⟩
      have Vx:yB n m T0 (λ_=>0) (B8 main):=yB.scale (h.rel _ A4) (k:=1/val (t.at row.toNat Fm.toNat)) (λj H=>by
       have:=(d2 j (by rw[LV];exact H)).2
       rw[this.2];have:=this.1;grind)
      have⟨p1,p2⟩:=vP h A4 Qr Vx O K;exact⟨hc,p1,by simp[h.KN],λb hb=>by
       rcases List.mem_or_eq_of_mem_set hb with h1|h1
       ·exact h.bas b h1
       omega,λi hi=>(p2 i hi).1,λi hi=>(p2 i hi).2⟩
 cases e
theorem sl{n m:Nat}{T0:Nat->Nat->Rat}{t:Tb}(h:Gy n m T0 t){cost:o3}(K:Lp cost=n+m)(hv:∀j,j<n+m->A5 (cost[j]?.getD (0,0))=true):
 ∀{k:Nat} {cs:o3},k<=m->dX t cost k=some cs->nD (n+m+1) cs/\yB n m T0 (B8 (cost++[(0,1)])) (B8 cs)
 | 0,cs,hk,e=>by
   simp only[dX,Pi]at e;subst e;refine⟨⟨by simp[K],λj H=>?_⟩,?_⟩
   ·by_cases UQ:j<n+m
    ·rw[nP O];exact hv j UQ
    obtain rfl:j=n+m:=O
    rw[<-K,Rx,NE];rfl
   intro j H;rw[fR (λk hk=>by grind)];grind
 | k+1,cs,hk,e=>by
   simp only[dX]at e;cases e0:dX t cost k with
   | none=>rw[e0]at e;cases e
   | some c0 =>
     rw[e0]at e;simp only[kx]at e;have⟨⟨Z,h2⟩,h3⟩:=sl h K hv O e0;have⟨s1,s2,s3⟩:=wj e;exact⟨⟨by rw[s2,Z],λj H=>(s3 j (by rw[Z];exact H)).1⟩,yB.add h3 (h.rel k O) (λj H=>(s3 j (by rw[Z];exact H)).2)⟩
theorem fq(h:Gy n m T0 t){cs:o3}(e:dE t cost=some cs):nD (n+m+1) cs/\yB n m T0 (B8 (cost++[(0,1)])) (B8 cs):=by
 unfold dE at e;split at e
 ·next ho =>
  unfold sp Hf at ho;simp only[cM,cq,fp]at ho;have hc:=h.A';have H:=h.len;have hlen:Lp cost=n+m:=O;rw[H]at e;exact sl h hlen (λj hj=>by rw[In O];exact ho.2.2 _ (cP _)) (m9 _) e
 cases e
theorem eG:∀{f:Nat} {t:Tb} {p:Ph},Gy n m T0 t->bD cost f t=some p->Gy n m T0 p.t/\dE p.t cost=some p.costs/\p.left<=f:=by
 intro f
 induction f with
 | zero =>
   intro t p h e;unfold bD at e;cases H:dE t cost with
   | none=>rw[H]at e;cases e
   | some cs =>
     rw[H]at e;simp only at e;split at e
     ·simp only[Pi]at e;subst e;exact⟨h,H,m9 _⟩
     split at e
     ·simp only[Pi]at e;subst e;exact⟨h,H,m9 _⟩
     cases e
 | succ f ih =>
   intro t p h e;unfold bD at e;cases H:dE t cost with
   | none=>rw[H]at e;cases e
   | some cs =>
     rw[H]at e;simp only at e;split at e
     ·simp only[Pi]at e;subst e;exact⟨h,H,m9 _⟩
     split at e
     ·simp only[Pi]at e;subst e;exact⟨h,H,m9 _⟩
     cases K:bW t (dN t (bQ cs t.A')) (bQ cs t.A')with
     | none=>rw[K]at e;cases e
     | some t' =>
       rw[K]at e;have⟨a,b,c⟩:=ih (ia h K) e;exact⟨a,b,by omega⟩
theorem gX{n m:Nat}{T0:Nat->Nat->Rat}{Z:Nat}{s:Tb×Nat}(h:Gy n m T0 s.1):∀{k:Nat} {s':Tb×Nat},bP Z s k=some s'->Gy n m T0 s'.1/\s'.2<=s.2
 | 0,s',e=>by simp only[bP,Pi]at e;subst e;exact⟨h,m9 _⟩
 | k+1,s',e=>by
   simp only[bP]at e;cases K:bP Z s k with
   | none=>rw[K]at e;cases e
   | some s1 =>
     rw[K]at e;simp only[kx]at e;have⟨H,h2⟩:=gX h K;unfold jM at e
     split at e
     ·simp only[Pi]at e;subst e;exact⟨H,h2⟩
     split at e
     ·simp only[Pi]at e;subst e;exact⟨H,h2⟩
     split at e
     ·cases e
     next f hf =>
     rw[O0]at e;obtain⟨t',e1,rfl⟩:=e;exact⟨ia H e1,by show f<=s.2;omega⟩
end
section
variable{Y C cs:o3}{A M L:o4}{j n i base b d k N G:Nat}{x:Int}{B r m:o7}{a:o6}{α:Type}{w:J}{vs:List atY}
theorem uV{X Y:o3}:∀{k:Nat} {v:o8},IB X Y k=some v->A5 v=true/\(∀j,j<k->A5 (X[j]?.getD (0,0))=true/\A5 (Y[j]?.getD (0,0))=true)/\val v=B5 (λj=>B8 X j*B8 Y j) k
 | 0,v,e=>by
   simp only[IB,Pi]at e;subst e;refine⟨rfl,λj Z=>absurd Z O,?_⟩;unfold val B5;simp;grind
 | k+1,v,e=>by
   simp only[IB]at e;cases K:IB X Y k with
   | none=>rw[K]at e;cases e
   | some s =>
     rw[K]at e;simp only[kx]at e
     split at e
     ·next h2 =>
      simp only[Pi]at e;have⟨h3,h4,h5⟩:=uV K;have⟨m1,m2,m3,m4⟩:=Bg h2.1;have⟨a1,a2,a3,a4⟩:=pV h2.2;rw[<-e];refine⟨a3,λj Z=>?_,?_⟩
      ·by_cases H:j<k
       ·exact h4 j H
       obtain rfl:j=k:=O
       exact⟨m1,m2⟩
      rw[a4,m4,h5];rfl
     cases e
theorem eH{X:o3}{v:o8}(e:Fs X Y=some v):Lp X=Lp Y/\A5 v=true/\(∀j,j<Lp X->A5 (X[j]?.getD (0,0))=true/\A5 (Y[j]?.getD (0,0))=true)/\val v=B5 (λj=>B8 X j*B8 Y j) (Lp X):=by
 unfold Fs at e;split at e
 ·next h=>exact⟨h,uV e⟩
 cases e
theorem uU(X Y:o3):∀k,IB X Y k=IB Y X k
 | 0=>rfl
 | k+1=>by simp only[IB,uU X Y k,DZ (X[k]?.getD (0,0))]
theorem lL(X Y:o3):Fs X Y=Fs Y X:=by
 unfold Fs;by_cases h:Lp X=Lp Y
 ·rw[i7 h,i7 h.symm,h,uU]
 rw[f8 h,f8 (λe=>h e.symm)]
theorem xx(Y:o3)(k:Nat):(Y.map D2)[k]?.getD (0,0)=D2 (Y[k]?.getD (0,0)):=by
 rw[sr];cases Y[k]?<;>rfl
theorem xk(X Y:o3):∀k,IB X (Y.map D2) k=(IB X Y k).map D2
 | 0=>rfl
 | k+1=>by
   simp only[IB,xk X Y k,xx,Yr];cases IB X Y k with
   | none=>rfl
   | some s =>
     simp only[tv,kx,Tu]
     split<;>rfl
theorem OS(X Y:o3):Fs X (Y.map D2)=(Fs X Y).map D2:=by
 unfold Fs;rw[b7];split
 ·exact xk X Y _
 rfl
theorem CV(l:o7):aI (l.map λx=>-x)=(aI l).map D2:=by
 unfold aI;rw[PX,PX];rfl
def UD(A:o4)(C:o3)(j:Nat):Prop :=
 (∃x:Int,C[j]?.getD (0,0)=(x,1)/\-1000000<=x/\x<=1000000)∨∃j',j'<Lp C/\C[j']?.getD (0,0)=D2 (C[j]?.getD (0,0))/\FV A j'=(FV A j).map λx=>-x
theorem Pj(h:az A Y C j=true):bL A Y C j=true:=by
 unfold az at h;unfold bL;cases e:Fs Y (aI (FV A j))with
 | none=>rw[e]at h;cases h
 | some v =>
   rw[e]at h;simp only[cM,cq]at h⊢;have⟨s1,Z,K,H⟩:=pW h.1;rw[pz s1 Z];have:=(jd K).1 h.2;rw[H]at this;grind
theorem Aq{v c:o8}(h1:-1000000<=x)(h2:x<=1000000)(K:A5 v=true)(hc:A5 c=true)(e:val c=(x:Rat)-val v):FD (x,1) v=(c,true):=by
 have hb:=aV K;have kb:=aV hc;have hx:A5 (x,1)=true:=(Fr.int x O O).1;have hn:(x*v.2).natAbs<=1000000*1000000000:=by
  rw[S3];exact yy O O
 have H:(x*v.2-v.1*1)*c.2=c.1*(1*v.2):=by
  have a:=fL (show v.2≠0 by omega);have b:=fL (show c.2≠0 by omega);have:((x:Rat)*v.2-v.1)*c.2=c.1*v.2:=by unfold val at e;grind
  have h3:(x*v.2-v.1)*c.2=c.1*v.2:=by exact_mod_cast this
  grind
 unfold FD;rw[i7 (by rw[hx,K];rfl)];simp only;have⟨r,e1,Z⟩:=rB (n:=x*v.2-v.1*1) (d:=1*v.2) (x:=c.1) (D:=c.2) O O O O O O H;rw[e1];have:=Fr.eq Z (Fr.self hc) rfl;rw[this]
theorem De{c:o8}(hc:A5 c=true)(hn:∃x:Int,C[j]?.getD (0,0)=(x,1)/\-1000000<=x/\x<=1000000)(h:bL A Y C j=true)
 (e:∀v,Fs Y (aI (FV A j))=some v->val c=val (C[j]?.getD (0,0))-val v):az A Y C j=true:=by
 obtain⟨x,hx,h1,h2⟩:=hn;unfold bL at h;unfold az;cases K:Fs Y (aI (FV A j))with
 | none=>rw[K]at h;cases h
 | some v =>
   rw[K]at h;have H:=e v K;have Z:=(eH K).2.1;simp only[hx,cq]at h H⊢;rw[fF]at H;rw[Aq h1 h2 Z hc H];simp only[wq,cq];rw[jd hc,H];have:=(pz (Fr.int x O O).1 Z).1 h;rw[fF]at this;grind
theorem py{c:o8}(h:A5 c=true):FD c c=((0,1),true):=by
 have hb:=aV h;unfold FD;rw[i7 (by rw[h];rfl),Int.sub_self];have H:0<c.2*c.2:=Int.mul_pos O O;have⟨r,Z,K⟩:=rB (n:=0) (d:=c.2*c.2) (x:=0) (D:=1) H O (Y0 ⟨by omega,hb.2.1⟩ ⟨by omega,hb.2.1⟩).2 O O O O;rw[Z];have:=Fr.eq K (Fr.int 0 O O) rfl;rw[this]
theorem Bk{j':Nat}(Z:A5 (C[j]?.getD (0,0))=true)(e1:C[j']?.getD (0,0)=D2 (C[j]?.getD (0,0)))(e2:FV A j'=(FV A j).map λx=>-x)
 (h:bL A Y C j=true) (K:bL A Y C j'=true):az A Y C j=true:=by
 unfold bL at h K;unfold az;rw[e2,CV,OS,e1]at K;cases e0:Fs Y (aI (FV A j))with
 | none=>rw[e0]at h;cases h
 | some v =>
   rw[e0]at h K;have NF:=(eH e0).2.1;simp only[cq,tv]at h K;rw[pz Z NF]at h;rw[pz (by rw[ew];exact Z) (by rw[ew];exact NF),iG,iG]at K;have H:val (C[j]?.getD (0,0))=val v:=by grind
   have:=Bf Z NF H;simp only;rw[this,py NF];rfl
theorem hU(h:FT A B C=true):Lp C<=70/\Lp A<=8/\Lp B=Lp A/\(∀j,j<Lp C->A5 (C[j]?.getD (0,0))=true) /\
 (∀i,i<Lp A->Lp (A[i]?.getD [])=Lp C/\∀x∈A[i]?.getD [],-5000<=x/\x<=5000)/\∀i,i<Lp B->-5000<=B[i]?.getD 0/\B[i]?.getD 0<=5000:=by
 unfold FT Hf at h;simp only[cM,cq,fp,A8]at h;obtain⟨h1,h2,h3,h4,Z,K⟩:=h;refine⟨h1,h2,h3,λj H=>?_,λi hi=>?_,λi hi=>?_⟩
 ·rw[In H];exact h4 _ (cP _)
 ·rw[In hi];exact Z _ (cP _)
 rw[In hi];exact K _ (cP _)
theorem ip(b:Int):(b<0/\IW b=-1)∨(¬b<0/\IW b=1):=by
 unfold IW;by_cases h:b<0
 ·exact .inl ⟨h,i7 h⟩
 exact .inr ⟨h,f8 h⟩
theorem jG(Z:Lp (A[i]?.getD [])=n)(hi:i<Lp A):
 Lp (dH A B i)=n+Lp A+1/\(∀j,j<n->(dH A B i)[j]?.getD (0,0)=(IW (B[i]?.getD 0)*(A[i]?.getD [])[j]?.getD 0,1))/\(∀k,k<Lp A->(dH A B i)[n+k]?.getD (0,0)=if k=i then(1,1) else(0,1))/\(dH A B i)[n+A.length]?.getD (0,0)=(IW (B[i]?.getD 0)*B[i]?.getD 0,1):=by
 have H:Lp ((A[i]?.getD []).map λx=>(IW (B[i]?.getD 0)*x,(1:Int)))=n:=by rw[b7,Z]
 have K:(tS (Lp A) i).length=Lp A:=by simp[tS]
 unfold dH;refine⟨by simp[Z,K];omega,λj hj=>?_,λk hk=>?_,?_⟩
 ·rw[nP (by rw[ar,H];omega),nP O,sr];rw[In (l:=A[i]?.getD []) (by rw[Z];exact hj)];rfl
 ·rw[nP (by rw[ar,H,K];omega),J1 O,H,Nat.add_sub_cancel_left];unfold tS;rw[sr,Pp hk];rfl
 rw[J1 (by rw[ar,H,K];omega),ar,H,K];simp
theorem oa(x:Int)(h:-1000000000<=x)(H:x<=1000000000):A5 (x,1)=true:=(Fr.int x h H).1
def Uu(h:σ:=by
 refine oa _ ?_ ?_<;>rcases ip (B[i]?.getD 0)with⟨_,e⟩|⟨_,e⟩<;>rw[e]<;>omega
 ):σ:=h
theorem jW(h:FT A B C=true):Gy (Lp C) (Lp A) (λk j=>B8 (dH A B k) j) (cG A B (Lp C)):=by
 have⟨h1,h2,h3,h4,Z,h6⟩:=hU h;have A4:∀i,i<Lp A->(cG A B (Lp C)).row i=dH A B i:=by
  intro i hi;unfold cG Tb.row;simp only[sr,Pp hi,tv,NE]
 refine⟨rfl,by simp[cG],by simp[cG],λb hb=>?_,λi hi=>?_,λi hi=>?_⟩
 ·simp only[cG,xl,nM]at hb;obtain⟨i,hi,rfl⟩:=hb;omega
 ·rw[A4 i hi];have⟨r1,r2,K,r4⟩:=jG (B:=B) (Z i hi).1 hi;refine⟨r1,λj hj=>?_⟩;by_cases H:j<Lp C
  ·rw[r2 j H];have hm:(A[i]?.getD [])[j]?.getD 0∈A[i]?.getD []:=by
    rw[In (l:=A[i]?.getD []) (by rw[(Z i hi).1];exact H)];exact cP _
   have Kw:=(Z i hi).2 _ hm;exact Uu
  by_cases UQ:j<Lp C+Lp A
  ·obtain⟨k,rfl⟩:∃k,j=Lp C+k:=⟨j-C.length,by omega⟩;rw[K k O];split<;>rfl
  obtain rfl:j=Lp C+Lp A:=O;rw[r4];have:=h6 i O;exact Uu
 rw[A4 i hi];have⟨r1,r2,K,r4⟩:=jG (B:=B) (Z i hi).1 hi;intro j hj;rw[zt (i:=i) hi]
 ·unfold B8;rw[K i hi,i7 rfl];have:val (1,1)=1:=by unfold val;grind
  rw[this];grind
 intro k hk IG;unfold B8;rw[K k hk,f8 IG];have:val (0,1)=0:=by unfold val;grind
 rw[this];grind
theorem rS(f:Nat->Rat):∀m,B5 (λk=>- f k) m=- B5 f m
 | 0=>by simp[B5]
 | m+1=>by simp only[B5,rS f m];grind
theorem zj(b x:Int):val (IW b*x,1)=(IW b:Rat)*(x:Rat):=by rw[fF];exact_mod_cast rfl
theorem Dp(B:o7)(cs:o3)(n i:Nat):val (eP B cs n i)=- ((IW (B[i]?.getD 0):Rat)*B8 cs (n+i)):=by
 unfold eP Je;rcases ip (B[i]?.getD 0)with⟨h,e⟩|⟨h,e⟩
 ·rw[i7 h,e,iG,iG];unfold B8;have:((-1:Int):Rat)=-1:=by exact_mod_cast rfl
  rw[this];grind
 rw[f8 h,e,iG];unfold B8;have:((1:Int):Rat)=1:=by exact_mod_cast rfl
 rw[this];grind
theorem ax(ok:FT A B C=true){r:I'}(h:Ih A B C=some r)(hs:r.status=1):
 ∃cs,nD (Lp C+Lp A+1) cs/\Lp r.Y=Lp B/\r.value=D2 (cs[Lp C+A.length]?.getD (0,0))/\(∀j,j<Lp C->B8 cs j=val (C[j]?.getD (0,0))-B5 (λk=>B8 r.Y k*(((A[k]?.getD [])[j]?.getD 0:Int):Rat)) (Lp A)) /\
   B8 cs (Lp C+Lp A)=- B5 (λk=>B8 r.Y k*((B[k]?.getD 0:Int):Rat)) (Lp A):=by
 have⟨h1,h2,h3,h4,h5,h6⟩:=hU ok;unfold Ih at h;rw[h3]at h;cases e1:bD (eT (Lp C) (Lp A)) 1000 (cG A B (Lp C))with
 | none=>rw[e1]at h;cases h
 | some p1 =>
   rw[e1]at h;simp only[kx]at h;split at h
   ·rw[O0]at h;obtain⟨Y,_,rfl⟩:=h;cases hs
   cases e2:bP (Lp C) (p1.t,p1.left) (Lp A) with
   | none=>rw[e2]at h;cases h
   | some s =>
     rw[e2]at h;simp only[kx]at h;rw[O0]at h;obtain⟨K,e3,h⟩:=h;split at h
     ·subst h;cases hs
     have i1:=(eG (jW ok) e1).1;have i2:=(gX (s:=(p1.t,p1.left)) i1 e2).1;obtain⟨i3,e4,_⟩:=eG i2 e3;have⟨c1,c2⟩:=fq i3 e4;subst h;have IH:∀j,(dA C (Lp A)++[(0,1)])[j]?.getD (0,0)=if j<Lp C then C[j]?.getD (0,0) else if j<Lp C+Lp A+1 then(0,1) else(0,0):=by
      intro j;unfold dA;by_cases Z:j<Lp C
      ·rw[i7 Z,vl,nP Z]
      rw[f8 Z,vl,J1 O];have:List.replicate (Lp A) ((0:Int),(1:Int))++[(0,1)]=List.replicate (Lp A+1) (0,1):=by rw[WR]
      rw[this,I0];by_cases UQ:j<Lp C+Lp A+1
      ·rw[i7 UQ,i7 O];rfl
      rw[f8 UQ,f8 O];rfl
     have hz:∀k,k<Lp A+1->B8 (dA C (Lp A)++[(0,1)]) (Lp C+k)=0:=by
      intro k H;unfold B8;rw[IH,f8 O,i7 O];unfold val;grind
     have hY:∀k,k<Lp A->B8 ((List.range (Lp A)).map (eP B K.costs (Lp C))) k=- ((IW (B[k]?.getD 0):Rat)*B8 K.costs (Lp C+k)):=by
      intro k H;unfold B8;rw[sr,Pp H,tv,NE,Dp];rfl
     refine⟨K.costs,c1,by simp[h3],rfl,λj Z=>?_,?_⟩
     ·have hr:=c2 j O;have hcj:B8 (dA C (Lp A)++[(0,1)]) j=val (C[j]?.getD (0,0)):=by unfold B8;rw[IH,i7 Z]
      have Vr:B5 (λk=>(B8 K.costs (Lp C+k)-B8 (dA C (Lp A)++[(0,1)]) (Lp C+k))*B8 (dH A B k) j) (Lp A)=B5 (λk=>- (B8 ((List.range (Lp A)).map (eP B K.costs (Lp C))) k*(((A[k]?.getD [])[j]?.getD 0:Int):Rat))) (Lp A) :=
       bX λk H=>by
        rw[hz k O,hY k H];have:B8 (dH A B k) j=(IW (B[k]?.getD 0):Rat)*(((A[k]?.getD [])[j]?.getD 0:Int):Rat):=by
         unfold B8;rw[(jG (B:=B) (h5 k H).1 H).2.1 j Z,zj]
        rw[this];grind
      rw[Vr,rS,hcj]at hr;simp only
      grind
     have hr:=c2 (Lp C+Lp A) O;have Vr:B5 (λk=>(B8 K.costs (Lp C+k)-B8 (dA C (Lp A)++[(0,1)]) (Lp C+k))*B8 (dH A B k) (Lp C+Lp A)) (Lp A)=B5 (λk=>- (B8 ((List.range (Lp A)).map (eP B K.costs (Lp C))) k*((B[k]?.getD 0:Int):Rat))) (Lp A) :=
      bX λk H=>by
       rw[hz k O,hY k H];have:B8 (dH A B k) (Lp C+Lp A)=(IW (B[k]?.getD 0):Rat)*((B[k]?.getD 0:Int):Rat):=by
        unfold B8;rw[(jG (B:=B) (h5 k H).1 H).2.2.2,zj]
       rw[this];grind
     rw[Vr,rS,hz A.length O]at hr;simp only
     grind
theorem Al(A:o4)(j k:Nat)(H:k<Lp A):(FV A j)[k]?.getD 0=(A[k]?.getD [])[j]?.getD 0:=by
 unfold FV;rw[sr,In H];rfl
theorem Ie(ok:FT A B C=true)(hn:∀j,j<Lp C->UD A C j){r:I'}(h:Ih A B C=some r):aQ az A B C r=aQ bL A B C r:=by
 unfold aQ;split
 ·next hs =>
  have⟨cs,c1,c2,c3,c4,c5⟩:=ax ok h hs;have⟨h1,h2,h3,h4,h5,h6⟩:=hU ok;have key:(List.range (Lp C)).all (az A r.Y C)=(List.range (Lp C)).all (bL A r.Y C):=by
   rw[uu,fp,fp];constructor
   ·intro Z j K;exact Pj (Z j K)
   intro Z j K;have H:=nM.1 K;rcases hn j H with hi|⟨j',UQ,e1,e2⟩
   ·refine De (c1.2 j O) hi (Z j K) λv hv=>?_;have:=c4 j H;unfold B8 at this;rw[this];have⟨d1,d2,d3,d4⟩:=eH hv;rw[d4,c2,h3];congr 1;refine bX λk hk=>?_;unfold B8;rw[pC (by simp[FV];omega),Al A j k hk,fF]
   exact Bk (h4 j H) e1 e2 (Z j K) (Z j' (nM.2 UQ))
  rw[key]
 rfl
theorem Xf(H:FT A B C=true->∀j,j<Lp C->UD A C j):bH az A B C=bH bL A B C:=by
 unfold bH;split
 ·next ok =>
  cases e:Ih A B C with
  | none=>rfl
  | some r=>simp only[Ie ok (H ok) e]
 rfl
def en(B:o7)(base:o8)(cs:o3)(n i:Nat):o8:=Je (B[i]?.getD 0) (FD base (cs[n+i]?.getD (0,0))).1
def JW(A:o4)(B:o7)(C:o3):Option I' :=
 (bD (eT (Lp C) (Lp B)) 1000 (cG A B (Lp C))).bind λp1 =>
   if(p1.costs[Lp C+B.length]?.getD (0,0)).1<0 then
    some ⟨2,[],(List.range (Lp B)).map (en B (1,1) p1.costs (Lp C)),[],(0,0),1000-p1.left⟩
   else(bP (Lp C) (p1.t,p1.left) (Lp B)).bind λs=>(bD (dA C (Lp B)) s.2 s.1).map λp2 =>
    if 0<=p2.Fm then⟨3,(H8 p2.t).take (Lp C),[],H5 p2.t (Lp C) p2.Fm.toNat (Lp B),(0,0),1000-p2.left⟩
    else⟨1,(H8 p2.t).take (Lp C),(List.range (Lp B)).map (en B (0,1) p2.costs (Lp C)),[],D2 (p2.costs[Lp C+B.length]?.getD (0,0)),1000-p2.left⟩
def fh(A:o4)(B:o7)(C:o3):I' :=
 if FT A B C=true then
  match JW A B C with
  | none=>bh 4
  | some r=>if aQ bL A B C r=true then r else bh 4
 else bh 0
theorem Bv{base:o8}{x:o8}(h:gY B base cs n i=some x):en B base cs n i=x:=by
 unfold gY at h;split at h
 ·exact iv h
 cases h
theorem px{a b:o8}(h:(FD a b).2=false):(FD a b).1=(0,0):=by
 unfold FD at h⊢;split
 ·next hv=>rw[i7 hv]at h;exact XU h
 rfl
theorem Bu{base:o8}(h:gY B base cs n i=none):A5 (en B base cs n i)=false:=by
 unfold gY at h;split at h
 ·cases h
 next hf =>
 unfold en;rw[px (by simpa using hf)];unfold Je D2;split<;>rfl
theorem Dq(H:A5 (cs[n+i]?.getD (0,0))=true):en B (0,1) cs n i=eP B cs n i:=by
 unfold en eP;rw[Aq (x:=0) (c:=D2 (cs[n+i]?.getD (0,0))) O O H (by rw[ew];exact H) (by rw[iG];grind)]
theorem tw{f:Nat->Option (Int×Int)}:∀{k:Nat},Nm f k=none->∃i,i<k/\f i=none
 | 0,h=>by cases h
 | k+1,h=>by
   cases K:Nm f k with
   | none=>have⟨i,hi,H⟩:=tw K;exact⟨i,by omega,H⟩
   | some l =>
     cases H:f k with
     | none=>exact⟨k,by omega,H⟩
     | some x=>rw[eg K H]at h;cases h
theorem SI(ok:FT A B C=true):
 JW A B C=Ih A B C∨(Ih A B C=none/\∃r,JW A B C=some r/\aQ bL A B C r=false):=by
 have⟨h1,h2,h3,h4,h5,h6⟩:=hU ok;unfold JW Ih;cases e1:bD (eT (Lp C) (Lp B)) 1000 (cG A B (Lp C))with
 | none=>exact uf rfl
 | some p1 =>
   simp only[kx];by_cases H:(p1.costs[Lp C+B.length]?.getD (0,0)).1<0
   ·rw[i7 H,i7 H];cases hr:Nm (gY B (1,1) p1.costs (Lp C)) (Lp B) with
    | some Y =>
      left;have hY:(List.range (Lp B)).map (en B (1,1) p1.costs (Lp C))=Y:=by
       have:=yK (f:=gY B (1,1) p1.costs (Lp C)) (F:=en B (1,1) p1.costs (Lp C)) (k:=Lp B) λi hi=>by
        have:=iF hr i hi;rw[this,Bv this]
       rw[hr]at this;exact(iv this).symm
      rw[hY];rfl
    | none =>
      right;refine⟨rfl,_,rfl,?_⟩;have⟨i,hi,hf⟩:=tw hr;have hv:=Bu hf;unfold aQ;rw[f8 j9,i7 rfl];simp only;rw[cF];right;unfold pO;rw[cF];right
      cases hd:Fs ((List.range (Lp B)).map (en B (1,1) p1.costs (Lp C))) (aI B)with
      | none=>rfl
      | some v =>
        exfalso;have:=((eH hd).2.2.1 i (by simpa using hi)).1;rw[sr,Pp hi,tv,NE,hv]at this;cases this
   rw[f8 H,f8 H];left
   cases e2:bP (Lp C) (p1.t,p1.left) (Lp B) with
   | none=>rfl
   | some s =>
     simp only[kx];cases e3:bD (dA C (Lp B)) s.2 s.1 with
     | none=>rfl
     | some p2 =>
       simp only[tv];split
       ·rfl
       have i1:=(eG (jW ok) e1).1;have Z:=(gX (s:=(p1.t,p1.left)) i1 e2).1;obtain⟨K,e4,_⟩:=eG Z e3;have⟨c1,c2⟩:=fq K e4;congr 2;apply TL;intro i hi;exact Dq (c1.2 _ (l8 (nM.1 hi)))
theorem Fc(A:o4)(B:o7)(C:o3):fh A B C=bH bL A B C:=by
 unfold fh bH
 split
 ·next ok =>
  rcases SI ok with h|⟨Z,r,K,H⟩
  ·rw[h]<;>cases Ih A B C<;>rfl
  ·rw[Z,K];simp only;rw[H];rfl
 ·rfl
theorem kD(H:FT A B C=true->∀j,j<Lp C->UD A C j):bH az A B C=fh A B C:=by rw[Fc];exact Xf H
def GP(M:o4)(c d:Nat):Nat:=match (M.drop d).findIdx? (λr=>r[c]?.getD 0 != 0)with|some k=>d+k|none=>Lp M
def xt{α:Type}[Inhabited α](l:List α)(a b:Nat):List α:=(l.set a (l[b]?.getD default)).set b (l[a]?.getD default)
theorem dZ[Inhabited α](l:List α)(a b:Nat):Lp (xt l a b)=Lp l:=by simp[xt]
theorem lz[Inhabited α]{l:List α}{a b:Nat}(Z:a<Lp l)(hb:b<Lp l)(i:Nat):(xt l a b)[i]?.getD default=if i=b then l[a]?.getD default else if i=a then l[b]?.getD default else l[i]?.getD default:=by
 unfold xt;by_cases K:i=b
 ·subst K;rw[i7 rfl];simp[hb]
 rw[f8 K,pk (vA K)];by_cases H:i=a
 ·subst H;rw[i7 rfl];simp[Z]
 rw[f8 H,pk (vA H)]
theorem W5[Inhabited α](l:List α){a b:Nat}(K:a<Lp l)(hb:b<Lp l):xt l a b=xt l b a:=by
 apply ub;intro i;by_cases hi:i<Lp l
 ·have H:=lz K hb i;have h2:=lz hb K i;have e:(if i=b then l[a]?.getD default else if i=a then l[b]?.getD default else l[i]?.getD default)=(if i=a then l[b]?.getD default else if i=b then l[a]?.getD default else l[i]?.getD default):=by
   by_cases h3:i=b
   ·subst h3;by_cases Z:i=a
    ·subst Z;simp
    simp[Z]
   simp[h3]
  rw[e,<-h2]at H;have l1:i<Lp (xt l a b):=by rw[dZ];exact hi
  have l2:i<Lp (xt l b a):=by rw[dZ];exact hi
  rw[In l1,In l2]at H⊢
  simpa using H
 rw[mq Y5,mq Y5]
def FK(c:Nat)(p r:o7):o7:=(List.range (Lp r)).map λj=>r[j]?.getD 0*p[c]?.getD 0-r[c]?.getD 0*p[j]?.getD 0
def KJ(l:o7):Int:=l.foldl gI 0
def cO(c:Nat)(p r:o7):o7:=if r[c]?.getD 0=0 then r else(FK c p r).map λx=>x.tdiv (max (KJ (FK c p r)) 1)
theorem fI(c:Nat)(p r:o7):Lp (FK c p r)=Lp r:=by simp[FK]
theorem Dr(c:Nat)(p r:o7):Lp (cO c p r)=Lp r:=by unfold cO;split<;>simp[fI]
theorem kL{c:Nat}{p:o7}(h:j<Lp r):(FK c p r)[j]?.getD 0=r[j]?.getD 0*p[c]?.getD 0-r[c]?.getD 0*p[j]?.getD 0:=by simp[FK,h]
def II(e:Nat->o7->o7->o7)(c:Nat)(M:o4)(d t:Nat):o4:=(List.range (Lp M)).map λi=>if d<i/\i<t then e c (M[d]?.getD []) (M[i]?.getD []) else M[i]?.getD []
theorem eE(e:Nat->o7->o7->o7)(c:Nat)(M:o4)(d t:Nat):Lp (II e c M d t)=Lp M:=by simp[II]
theorem jn(e:Nat->o7->o7->o7)(c:Nat)(M:o4)(d t:Nat)(h:i<Lp M):(II e c M d t)[i]?.getD []=if d<i/\i<t then e c (M[d]?.getD []) (M[i]?.getD []) else M[i]?.getD []:=by simp[II,h]
theorem nq{l H:o4}(Z:Lp l=Lp H)(h:∀i,i<Lp l->l[i]?.getD []=H[i]?.getD []):l=H:=by
 apply Pl Z;intro i K h2;have:=h i K;rw[In K,In h2]at this
 simpa using this
theorem tp(e:Nat->o7->o7->o7)(c:Nat)(M:o4)(d:Nat):II e c M d (d+1)=M:=by
 refine nq (eE _ _ _ _ _) λi hi=>?_;rw[eE]at hi;rw[jn _ _ _ _ _ hi,f8 O]
theorem pf(e:Nat->o7->o7->o7)(c:Nat)(M:o4)(d t:Nat)(h:d<t)(Z:t<Lp M):(II e c M d t).set t (e c (M[d]?.getD []) (M[t]?.getD []))=II e c M d (t+1):=by
 refine nq (by simp[eE]) λi hi=>?_;rw[km,eE]at hi;rw[jn _ _ _ _ _ hi];by_cases H:i=t
 ·subst H;rw[i7 ⟨h,by omega⟩,tu (by rw[eE];exact Z)];rfl
 rw[pk (vA H),jn _ _ _ _ _ hi];by_cases K:d<i/\i<t
 ·rw[i7 K,i7 ⟨K.1,by omega⟩]
 rw[f8 K,f8 O]
theorem jo(e:Nat->o7->o7->o7)(c:Nat)(M:o4)(d t i:Nat)(h:i<Lp M)(hi:t<=i∨i<=d):(II e c M d t)[i]?.getD []=M[i]?.getD []:=by
 rw[jn _ _ _ _ _ h,f8 O]
theorem ED{e:Nat->o7->o7->o7}{c:Nat}{t:Nat}(h:d<t)(K:t<Lp M)(Z:e c (M[d]?.getD []) (M[t]?.getD [])=M[t]?.getD []):II e c M d t=II e c M d (t+1):=by
 rw[<-pf e c M d t h K,Z];refine nq j9 λi hi=>?_;rw[eE]at hi;by_cases H:i=t
 ·subst H;rw[tu (by rw[eE];exact hi),jo _ _ _ _ _ _ hi O];rfl
 rw[pk (vA H)]
def LN(m r:o7)(j:Nat):o7:=m.take j++r.drop j
theorem vz(m r:o7):LN m r 0=r:=by simp[LN]
theorem yu(h:Lp m=Lp r):LN m r (Lp m)=m:=by unfold LN;rw[Wt,h,List.drop_length,D0]
theorem AC(h:Lp m=Lp r)(hj:j<Lp r):(LN m r j)[j]?.getD 0=r[j]?.getD 0:=by
 unfold LN;have H:Lp (m.take j)=j:=t8;rw[J1 O,H,QL];simp
theorem Yt(h:Lp m=Lp r)(K:j<Lp r):(LN m r j).set j (m[j]?.getD 0)=LN m r (j+1):=by
 unfold LN;have H:Lp (m.take j)=j:=t8;rw[O' _ _ O,H,R8,Xd K,Zq,cD O,vl];rfl
theorem Xh(hi:i<Lp M)(h:M[i]?.getD []=r):M.set i r=M:=by
 refine nq j9 λk H=>?_;rw[km]at H;by_cases e:k=i
 ·subst e;rw[tu hi,h];rfl
 rw[pk (vA e)]
theorem wk(hi:i<Lp M)(H:Lp m=Lp r)(K:j<Lp r):(M.set i (LN m r j)).set i (((M.set i (LN m r j))[i]?.getD []).set j (m[j]?.getD 0))=M.set i (LN m r (j+1)):=by
 rw[tu hi,NE,List.set_set,Yt H K]
def JM(e:Nat->o7->o7->o7)(c:Nat)(s:o4×Nat):o4×Nat :=
 if GP s.1 c s.2<Lp s.1 then(II e c (xt s.1 s.2 (GP s.1 c s.2)) s.2 (Lp s.1),s.2+1) else s
def WF(e:Nat->o7->o7->o7)(M:o4):Nat->o4×Nat
 | 0=>(M,0)
 | c+1=>JM e c (WF e M c)
theorem fA{c:Nat}(h:GP M c d<Lp M):d<=GP M c d/\(M[GP M c d]?.getD [])[c]?.getD 0≠0/\∀i,d<=i->i<GP M c d->(M[i]?.getD [])[c]?.getD 0=0:=by
 unfold GP at h⊢;cases H:(M.drop d).findIdx? (λr=>r[c]?.getD 0 != 0)with
 | none=>rw[H]at h;simp at h
 | some k =>
   simp only;rw[pb]at H;obtain⟨h1,Z,h3⟩:=H;rw[C3]at h1;refine⟨by omega,?_,λi hi VA=>?_⟩
   ·rw[List.getElem_drop]at Z;have:d+k<Lp M:=by omega
    rw[In this];simpa using Z
   have K:=h3 (i-d) O;rw[List.getElem_drop]at K;have:i<Lp M:=O;rw[In this];have e:d+(i-d)=i:=O;simp only[e]at K
   simpa using K
theorem jP{c:Nat}(h:¬GP M c d<Lp M)(hd:d<=Lp M):GP M c d=Lp M/\∀i,d<=i->i<Lp M->(M[i]?.getD [])[c]?.getD 0=0:=by
 unfold GP at h⊢;cases H:(M.drop d).findIdx? (λr=>r[c]?.getD 0 != 0)with
 | none =>
   refine⟨rfl,λi hi VA=>?_⟩;rw[X0]at H;have:=H (M[i]) (List.mem_drop_iff_getElem.2 ⟨i-d,by omega,by congr 1;omega⟩);rw[In VA]
   simpa using this
 | some k =>
   rw[H]at h;simp only at h;rw[pb]at H;obtain⟨K,_⟩:=H;rw[C3]at K;omega
theorem G8{c:Nat}(Z:d<=k)(GF:k<Lp M)(h:(M[k]?.getD [])[c]?.getD 0≠0)(hz:∀i,d<=i->i<k->(M[i]?.getD [])[c]?.getD 0=0):GP M c d=k:=by
 by_cases K:GP M c d<Lp M
 ·have⟨h1,h2,h3⟩:=fA K;rcases Nat.lt_trichotomy (GP M c d) k with H|H|H
  ·exact absurd (hz _ h1 H) h2
  ·exact H
  exact absurd (h3 k Z H) h
 exact absurd ((jP K O).2 k Z GF) h
theorem Ya{c:Nat}(K:d<=Lp M)(hz:∀i,d<=i->i<Lp M->(M[i]?.getD [])[c]?.getD 0=0):GP M c d=Lp M:=by
 by_cases H:GP M c d<Lp M
 ·have⟨h,Z,h3⟩:=fA H;exact absurd (hz _ h H) Z
 exact(jP H K).1
theorem AL(M:o4)(c:Nat)(K:d<=Lp M):d<=GP M c d/\GP M c d<=Lp M:=by
 by_cases H:GP M c d<Lp M
 ·exact⟨(fA H).1,Nat.le_of_lt H⟩
 rw[(jP H K).1];exact⟨K,m9 _⟩
theorem Eu{c:Nat}(Z:d<=Lp M)(K:d<=k)(h2:k<GP M c d):(M[k]?.getD [])[c]?.getD 0=0:=by
 by_cases H:GP M c d<Lp M
 ·exact(fA H).2.2 k K h2
 have:=jP H Z;exact this.2 k K O
def mo(n:Nat)(B:Int)(M:o4):Prop:=∀i,i<Lp M->Lp (M[i]?.getD [])=n/\∀j:Nat,-B<=(M[i]?.getD [])[j]?.getD 0/\(M[i]?.getD [])[j]?.getD 0<=B
def Tn:Nat->Int
 | 0=>1
 | d+1=>2*(Tn d*Tn d)
theorem iN:∀d,d<=4->1<=Tn d/\Tn d<=32768/\Tn d<=Tn (d+1):=by
 have:∀d:Fin 5,1<=Tn d.val/\Tn d.val<=32768/\Tn d.val<=Tn (d.val+1):=by decide +kernel
 exact λd hd=>this ⟨d,by omega⟩
theorem jm{y B:Int}(h1:-B<=x)(h2:x<=B)(h3:-B<=y)(h4:y<=B):-(B*B)<=x*y/\x*y<=B*B:=by
 have hx:x.natAbs<=B.natAbs:=O;have H:y.natAbs<=B.natAbs:=O;have h:(x*y).natAbs<=B.natAbs*B.natAbs:=by rw[S3];exact yy hx H
 have e:((B.natAbs*B.natAbs:Nat):Int)=B*B:=by
    rw[VV];have:(B.natAbs:Int)=B:=O;rw[this]
 omega
theorem yw{c:Nat}{p:o7}{B:Int}(H:∀j:Nat,-B<=p[j]?.getD 0/\p[j]?.getD 0<=B)(hr:∀j:Nat,-B<=r[j]?.getD 0/\r[j]?.getD 0<=B)(j:Nat):
 -(2*(B*B))<=(FK c p r)[j]?.getD 0/\(FK c p r)[j]?.getD 0<=2*(B*B):=by
 by_cases h:j<Lp r
 ·rw[kL h];have K:=jm (hr j).1 (hr j).2 (H c).1 (H c).2;have h2:=jm (hr c).1 (hr c).2 (H j).1 (H j).2;omega
 rw[mq (by rw[fI];omega)];simp only[Ss];have:=jm (hr 0).1 (hr 0).2 (hr 0).1 (hr 0).2;have h0:0<=B*B:=by
    have K:=hr 0;have:0<=B:=O;exact ct this this
 omega
theorem OL{c:Nat}{p:o7}{B:Int}(K:1<=B)(H:∀j:Nat,-B<=p[j]?.getD 0/\p[j]?.getD 0<=B)(hr:∀j:Nat,-B<=r[j]?.getD 0/\r[j]?.getD 0<=B)(j:Nat):
 -(2*(B*B))<=(cO c p r)[j]?.getD 0/\(cO c p r)[j]?.getD 0<=2*(B*B):=by
 have A7:B<=B*B:=by have:=Int.mul_le_mul_of_nonneg_left K (show 0<=B by omega);omega
 unfold cO;split
 ·have:=hr j;omega
 have h1:=yw (c:=c) H hr j;by_cases h:j<Lp r
 ·have e:((FK c p r).map λx=>x.tdiv (max (KJ (FK c p r)) 1))[j]?.getD 0=((FK c p r)[j]?.getD 0).tdiv (max (KJ (FK c p r)) 1):=by
   simp[fI,h]
  rw[e];generalize(FK c p r)[j]?.getD 0=x at *;have h2:(x.tdiv (max (KJ (FK c p r)) 1)).natAbs<=x.natAbs:=by rw[B'];exact Zs _ _
  omega
 rw[mq (by simp[fI];omega)];simp only[Ss];omega
theorem kU{B:Int}(h:mo n B M){a:Nat}(H:a<Lp M)(hb:b<Lp M):mo n B (xt M a b):=by
 intro i hi;rw[dZ]at hi;have:=lz H hb i;change(xt M a b)[i]?.getD []=_ at this;rw[this]
 split
 ·exact h a H
 split
 ·exact h b hb
 exact h i hi
theorem qT{B B':Int}(h:mo n B M)(A7:B<=B'){e:Nat->o7->o7->o7}{c t:Nat}(H:d<Lp M)
 (K:∀p r:o7,Lp p=n->Lp r=n->(∀j:Nat,-B<=p[j]?.getD 0/\p[j]?.getD 0<=B)->(∀j:Nat,-B<=r[j]?.getD 0/\r[j]?.getD 0<=B)->Lp (e c p r)=n/\∀j:Nat,-B'<=(e c p r)[j]?.getD 0/\(e c p r)[j]?.getD 0<=B'):mo n B' (II e c M d t):=by
 intro i hi;rw[eE]at hi;rw[jn _ _ _ _ _ hi];split
 ·exact K _ _ (h d H).1 (h i hi).1 (h d H).2 (h i hi).2
 have:=h i hi;exact⟨this.1,λj=>by have:=this.2 j;omega⟩
def Ll(e:Nat->o7->o7->o7):Prop:=∀(B:Int) (n c:Nat) (p r:o7),1<=B->Lp p=n->Lp r=n->(∀j:Nat,-B<=p[j]?.getD 0/\p[j]?.getD 0<=B)->(∀j:Nat,-B<=r[j]?.getD 0/\r[j]?.getD 0<=B)->Lp (e c p r)=n/\∀j:Nat,-(2*(B*B))<=(e c p r)[j]?.getD 0/\(e c p r)[j]?.getD 0<=2*(B*B)
theorem tQ:Ll cO:=λB n c p r H hp hr Z K=>⟨by rw[Dr,hr],λj=>OL H Z K j⟩
theorem zx:Ll FK:=λB n c p r hB hp hr K H=>⟨by rw[fI,hr],λj=>yw K H j⟩
theorem kM{e:Nat->o7->o7->o7}(H:Ll e){n:Nat}{M:o4}(h:mo n 1 M):∀c,c<=5->(WF e M c).2<=c/\(WF e M c).1.length=Lp M/\(WF e M c).2<=Lp M/\mo n (Tn (WF e M c).2) (WF e M c).1
 | 0,_=>⟨m9 _,rfl,ef _,h⟩
 | c+1,hc=>by
   have⟨h1,Z,h3,K⟩:=kM H h c O
   show(JM e c (WF e M c)).2<=c+1/\(JM e c (WF e M c)).1.length=Lp M/\(JM e c (WF e M c)).2<=Lp M/\mo n (Tn (JM e c (WF e M c)).2) (JM e c (WF e M c)).1;unfold JM;generalize WF e M c=s at *
   split
   ·next hp =>
    have hb:=iN s.2 O;have Mi:=(fA hp).1;refine⟨by simp only;omega,by simp only[eE,dZ];exact Z,by simp only;omega,?_⟩;refine qT (kU K O hp) hb.2.2 Y5 λp r MG Nf h5 h6=>H _ n c p r hb.1 MG Nf h5 h6
   exact⟨by omega,Z,h3,K⟩
def QX(n:Nat)(a b:o7):Prop:=∃u v:Int,u≠0/\v≠0/\∀j,j<n->u*a[j]?.getD 0=v*b[j]?.getD 0
theorem QX.refl(n:Nat)(a:o7):QX n a a:=⟨1,1,by omega,by omega,λ_ _=>rfl⟩
theorem QX.zero{a b:o7}(h:QX n a b)(Z:j<n):a[j]?.getD 0=0↔b[j]?.getD 0=0:=by
 obtain⟨u,v,K,H,h⟩:=h;have:=h j Z;constructor
 ·intro e;rw[e,Int.mul_zero]at this;rcases Int.mul_eq_zero.1 this.symm with h|h
  ·exact absurd h H
  exact h
 intro e;rw[e,Int.mul_zero]at this;rcases Int.mul_eq_zero.1 this with h|h
 ·exact absurd h K
 exact h
theorem Z0(l:o7):∀(g:Int),(l.foldl gI g)∣g/\∀x∈l,(l.foldl gI g)∣x:=by
 induction l with
 | nil=>intro g;exact⟨Int.dvd_refl _,λx hx=>absurd hx j9⟩
 | cons a l ih =>
   intro g;have⟨H,K⟩:=ih (gI g a);refine⟨Int.dvd_trans H (ua g a),λx hx=>?_⟩;rcases OI.1 hx with rfl|hx
   ·exact Int.dvd_trans H (pK g x)
   exact K x hx
theorem zL(l:o7):∀g:Int,0<=g->0<=l.foldl gI g:=by
 induction l with
 | nil=>exact λg h=>h
 | cons a l ih=>exact λg h=>ih _ (ve g a)
theorem Fg{l:o7}(hx:x∈l):x.tdiv (max (KJ l) 1)*max (KJ l) 1=x:=by
 have H:=(Z0 l 0).2 x hx;have K:=zL l 0 (Int.le_refl _);change KJ l∣x at H;change 0<=KJ l at K;by_cases hg:KJ l=0
 ·rw[hg]at H⊢;have:x=0:=Int.zero_dvd.1 H;subst this;simp
 rw[show max (KJ l) 1=KJ l by omega];exact Int.tdiv_mul_cancel H
theorem Xg{c:Nat}{p q s:o7}(hc:c<n)(hr:Lp r=n)(hs:Lp s=n)(h:QX n p q)(k:QX n r s)(hp:p[c]?.getD 0≠0):QX n (cO c p r) (FK c q s):=by
 have hq:q[c]?.getD 0≠0:=λe=>hp ((h.zero hc).2 e)
 have hz:=k.zero hc;obtain⟨u',v',Qm,Z,h⟩:=h;obtain⟨u,v,hu,hv,k⟩:=k;unfold cO;split
 ·next h0 =>
  have s0:=hz.1 h0;refine⟨u*q[c]?.getD 0,v,bB hu hq,hv,λj K=>?_⟩;rw[kL O,s0];have:=k j K
  grind
 refine⟨u*u'*max (KJ (FK c p r)) 1,v*v',bB (bB hu Qm) O,bB hv Z,λj K=>?_⟩;have H:j<Lp (FK c p r):=by rw[fI];omega
 have e1:((FK c p r).map λx=>x.tdiv (max (KJ (FK c p r)) 1))[j]?.getD 0=((FK c p r)[j]?.getD 0).tdiv (max (KJ (FK c p r)) 1):=by simp[H]
 have e2:=Fg (l:=FK c p r) (x:=(FK c p r)[j]?.getD 0) (by rw[In H];simp);rw[e1,kL (show j<s.length by omega)];have e3:=kL (c:=c) (p:=p) (r:=r) (j:=j) O;generalize((FK c p r)[j]?.getD 0).tdiv (max (KJ (FK c p r)) 1)=z at *;generalize max (KJ (FK c p r)) 1=G at *;have k1:=k j K;have k2:=k c hc;have h1:=h j K;have h2:=h c hc;rw[e3]at e2;generalize r[j]?.getD 0=rj at *;generalize r[c]?.getD 0=rc at *;generalize s[j]?.getD 0=sj at *;generalize s[c]?.getD 0=sc at *;generalize p[j]?.getD 0=pj at *;generalize p[c]?.getD 0=pc at *;generalize q[j]?.getD 0=qj at *;generalize q[c]?.getD 0=qc at *;have a1:u*u'*G*z=u*u'*(rj*pc-rc*pj):=by rw[<-e2];grind
 rw[a1];have a2:u*u'*(rj*pc-rc*pj)=(u*rj)*(u'*pc)-(u*rc)*(u'*pj):=by grind
 rw[a2,k1,k2,h1,h2]
 grind
structure V8(n:Nat)(M K:o4):Prop where
 len:M.length=K.length
 row:∀i,i<M.length->QX n (M[i]?.getD []) (K[i]?.getD [])
theorem la{c:Nat}{K:o4}(hc:c<n)(hd:d<=Lp M)(h:V8 n M K):GP M c d=GP K c d:=by
 by_cases H:GP M c d<Lp M
 ·have⟨h1,Z,h3⟩:=fA H;refine(G8 h1 (by rw[<-h.len];exact H) (λe=>Z (((h.row _ H).zero hc).2 e)) λi hi VA=>((h.row i O).zero hc).1 (h3 i hi VA)).symm
 have⟨h1,Z⟩:=jP H hd;rw[h1,h.len];exact(Ya (by rw[<-h.len];exact hd) λi hi VA=>((h.row i (by rw[h.len];exact VA)).zero hc).1 (Z i hi (by rw[h.len];exact VA))).symm
theorem AX{n:Nat}{M:o4}(h:mo n 1 M)(hn:n<=5):∀c,c<=n->V8 n (WF cO M c).1 (WF FK M c).1/\(WF cO M c).2=(WF FK M c).2
 | 0,_=>⟨⟨rfl,λi _=>QX.refl _ _⟩,rfl⟩
 | c+1,hc=>by
   have⟨h1,h2⟩:=AX h hn c O;have⟨a1,a2,a3,a4⟩:=kM tQ h c O;have⟨b1,b2,b3,b4⟩:=kM zx h c O
   show V8 n (JM cO c (WF cO M c)).1 (JM FK c (WF FK M c)).1/\(JM cO c (WF cO M c)).2=(JM FK c (WF FK M c)).2;generalize WF cO M c=s at *;generalize WF FK M c=t at *;obtain⟨S,d⟩:=s;obtain⟨T,d'⟩:=t;simp only at *;subst h2;have MF:=la (show c<n by omega) (show d<=Lp S by omega) h1;unfold JM;simp only;rw[<-MF];by_cases K:GP S c d<Lp S
   ·rw[i7 K,i7 (by rw[<-h1.len];exact K)];have⟨p1,p2,p3⟩:=fA K;have hlen:=h1.len;have H:d<Lp S:=by omega
    refine⟨⟨by simp[eE,dZ,hlen],λi hi=>?_⟩,rfl⟩;rw[eE,dZ]at hi;have sw:∀i,i<Lp S->QX n ((xt S d (GP S c d))[i]?.getD []) ((xt T d (GP S c d))[i]?.getD []):=by
     intro i hi;have e1:=lz H K i;have e2:=lz (l:=T) (show d<Lp T by omega) (show GP S c d<Lp T by omega) i;change(xt S d (GP S c d))[i]?.getD []=_ at e1;change(xt T d (GP S c d))[i]?.getD []=_ at e2;rw[e1,e2]
     split
     ·exact h1.row d H
     split
     ·exact h1.row _ K
     exact h1.row i hi
    rw[jn _ _ _ _ _ (by rw[dZ];exact hi),jn _ _ _ _ _ Y5,<-hlen]
    split
    ·next hdi =>
     have g1:=kU a4 H K;have g2:=kU b4 (show d<Lp T by omega) (show GP S c d<Lp T by omega);refine Xg O (g1 i (by rw[dZ];exact hi)).1 (g2 i Y5).1 (sw d H) (sw i hi) ?_;have e1:=lz H K d;change(xt S d (GP S c d))[d]?.getD []=_ at e1;rw[e1];by_cases Z:d=GP S c d
     ·rw[i7 Z];rw[<-Z]at p2;exact p2
     rw[f8 Z,i7 rfl];exact p2
    exact sw i hi
   rw[f8 K,f8 (by rw[<-h1.len];exact K)];exact⟨h1,rfl⟩
def I9(n:Nat)(s:Int):o7:=(List.range n).map λ(k:Nat)=>Fv (Ia s (k:Int))
theorem mW(n:Nat)(s:Int):Lp (I9 n s)=n:=by simp[I9]
theorem uT(n:Nat)(s:Int):I9 n s++[Fv (Ia s (n:Int))]=I9 (n+1) s:=by simp[I9,mr]
theorem mY(n:Nat)(l:o7):mo n 1 (l.map (I9 n)):=by
 intro i hi;have K:i<Lp l:=by simpa using hi
 have e:(l.map (I9 n))[i]?.getD []=I9 n (l[i]):=by simp[K]
 rw[e];refine⟨mW _ _,λj=>?_⟩;by_cases H:j<n
 ·simp only[I9,sr,Pp H,tv,NE];unfold Fv;split<;>omega
 rw[mq (by rw[mW];omega)];simp
def gK(n:Int)(l:o7):Int:=if A8 n 1 5=true then((WF cO (l.map (I9 n.toNat)) n.toNat).2:Int) else 0
def kz(n:Int)(l:o7):Int:=if A8 n 1 5=true then((WF FK (l.map (I9 n.toNat)) n.toNat).2:Int) else 0
theorem Ex(n:Int)(l:o7):gK n l=kz n l:=by
 unfold gK kz;split
 ·next h =>
  simp only[A8,cM,cq]at h;rw[(AX (mY n.toNat l) O n.toNat (m9 _)).2]
 rfl
structure JP(w:J)(base:Nat)(a:o6)(N cap:Nat)(vs:List atY)(M:o4):Prop where
 own:E8 w base (FB a N cap) vs
 rows:bG w base vs M
theorem JP.IZ{cap:Nat}(h:JP w base a N cap vs M):Lp vs=N:=h.own.len
theorem JP.len{cap:Nat}(h:JP w base a N cap vs M):Lp M=N:=by rw[<-h.rows.len];exact h.own.len
theorem JP.cap{w:J}{base:Nat}{a:o6}{N cap:Nat}{vs:List atY}{M:o4}(h:JP w base a N cap vs M):N<=cap/\cap<=9223372036854775807:=by
 have⟨a',c',H,h1,K⟩:=h.own.form;simp only[mn]at H;obtain⟨_,h3,rfl⟩:=H;exact⟨by omega,K⟩
theorem JP.ext{w':J}{cap:Nat}(h:JP w base a N cap vs M)(hx:D4 w w'):JP w' base a N cap vs M:=⟨h.own.ext hx,h.rows.ext hx⟩
theorem JP.Mg{cap:Nat}(h:JP w base a N cap vs M):dD w a N cap M :=
 bZ.Mg ⟨vs,h.own,h.rows⟩
def LS(h:σ:=by
 rcases h.own.2 with⟨he,h0⟩|⟨g,cap',cur,he,hb,hg,_⟩
 ·simp only[mn]at he;omega
 ·simp only[mn]at he;obtain⟨rfl,_⟩:=he;exact⟨g,rfl,hb,IO hg,λj=>fy w g j cur _ hg⟩
 ):σ:=h
theorem JP.outer{cap:Nat}(h:JP w base a N cap vs M)(hN:0<N):∃G,a=some (IM G 0)/\base<=G/\G<w.heap.size/\∀j,w.frozen? (IM G j)=false:=by
 exact LS
def Jk(h:σ:=by
 have hr:=h.rows.row i (by rw[h.len];exact hi);have⟨a',c,he,FQ,IH⟩:=hr.form;rw[he]at hr;rw[hn]at he hr FQ;obtain⟨g,rfl,hb,_,LW⟩:=hr.block (k:=0) O;obtain⟨G',hG,_,hc⟩:=h.own.cell hi;simp only[Pi,gl,gi]at hG;subst hG;refine⟨g,c,he,?_,hr,λe=>hr.apart h.own g rfl N0,hb,LW,FQ,IH⟩;rw[hc i hi,<-he];have:i<vs.length:=by rw[h.IZ];exact hi
 simp[this]
 ):σ:=h
theorem JP.row{cap:Nat}(h:JP w base (some ⟨G,0,none⟩) N cap vs M)(hi:i<N)(hn:(M[i]?.getD []).length=n)(h1:1<=n):
 ∃g c,vs[i]?.getD undef=.slice (some ⟨g,0,none⟩) n c/\w.cell? ⟨G,i,none⟩=some (.slice (some ⟨g,0,none⟩) n c)/\y9 w base (.slice (some ⟨g,0,none⟩) n c) (M[i]?.getD [])/\g≠G/\base<=g/\g<w.heap.size/\n<=c/\c<=9223372036854775807:=by
 have hr:=h.rows.row i (by rw[h.len];exact hi);obtain⟨a',c,H,Z,IH⟩:=hr.form;rw[H]at hr;rw[hn]at H hr Z;obtain⟨g,rfl,hb,_,LW⟩:=hr.block (k:=0) O;obtain⟨G',K,_,hc⟩:=h.own.cell hi;simp only[Pi,gl,gi]at K;subst K;refine⟨g,c,H,?_,hr,λe=>hr.apart h.own g rfl (by subst e;rfl),hb,LW,Z,IH⟩;rw[hc i hi,<-H];have:i<vs.length:=by rw[h.IZ];exact hi
 simp[this]
def Ve(h:σ:=by
 subst e;rcases Nat.lt_or_gt_of_ne IG with hlt|hlt
 ·exact h.rows.apart k i _ hlt K2 hb (by rw[hv];rfl)
 ·exact h.rows.apart i k _ hlt hk (by rw[hv];rfl) hb
 ):σ:=h
theorem JP.N9{cap:Nat}(h:JP w base (some (IM G 0)) N cap vs M){g c:Nat}(hi:i<N)(hv:vs[i]?.getD undef=GT g n c)(j:Nat)(x:Int):
 JP (w.setCell (IM g j) (U x)) base (some (IM G 0)) N cap vs (M.set i ((M[i]?.getD []).set j x)):=by
 have K2:i<Lp M:=by rw[h.len];exact hi
 have hr:=h.rows.row i K2;rw[hv]at hr;have hgG:g≠G:=λe=>hr.apart h.own g rfl N0
 refine⟨h.own.keep λk hk=>If _ _ _ _ Qu,?_⟩;refine⟨by rw[km];exact h.rows.len,λk hk=>?_,λa b k VF hb=>h.rows.apart a b k VF (by rw[km]at hb;exact hb)⟩;rw[km]at hk;by_cases IG:k=i
 ·subst IG;rw[hv,tu K2];exact hr.set j x
 rw[pk (vA IG)];refine(h.rows.row k hk).keep λb hb=>If _ _ _ _ λe=>?_;exact Ve
def LB(h:σ:=by
 rw[km]at F0;by_cases hai:a=i
 ·subst hai;rw[tu NG]at hk;rw[pk O]at r7;have h1:=(ho.lt k hk).1;have h2:=((h.rows.row b F0).lt k r7).2;omega
 ·rw[pk (vA hai)]at hk;by_cases Jh:b=i
  ·subst Jh;rw[tu NG]at r7;have h1:=(ho.lt k r7).1;have h2:=((h.rows.row a O).lt k hk).2;omega
  rw[pk (vA Jh)]at r7;exact h.rows.apart a b k VF F0 hk r7
 ):σ:=h
def SE(h:σ:=by
 rw[km]at hk;by_cases IG:k=i
 ·subst IG;rw[tu NG,tu K2];exact(ho.keep λb R4=>MH b (l8 ((ho.lt b R4).1))).mono hb
 ·rw[pk (vA IG),pk (vA IG)];refine(hW.rows.row k hk).keep λb R4=>MH b λe=>?_;subst e;exact(hW.rows.row k hk).apart hW.own _ R4 rfl
 ):σ:=h
theorem JP.put{w0:J}{cap:Nat}(h:JP w0 base (some (IM G 0)) N cap vs M)(hx:D4 w0 w)(hb:base<=w0.heap.size){v:atY}{l:o7}(ho:y9 w w0 v l)(hi:i<N):
 JP (w.setCell (IM G i) v) base (some (IM G 0)) N cap (vs.set i v) (M.set i l):=by
 have K2:i<Lp M:=by rw[h.len];exact hi
 have NG:i<Lp vs:=by rw[h.IZ];exact hi
 have hW:=h.ext hx;obtain⟨G',H,OH,VH,_⟩:=h.outer O;obtain rfl:=O2 H;have MH:∀k,k≠G->(w.setCell (IM G i) v).heap[k]?=w.heap[k]?:=λk hk=>If _ _ _ _ hk
 refine⟨?_,⟨by rw[km,km];exact h.rows.len,λk hk=>?_,λa b k VF F0 hk r7=>?_⟩⟩
 ·have ho:=hW.own;unfold E8 at ho;rw[hW.IZ]at ho;have:=(W6 ho i v).1;unfold E8;rw[km,hW.IZ];exact this
 ·exact SE
 exact LB
def Ty(l:List atY)(a b:Nat):List atY:=(l.set a (l[b]?.getD undef)).set b (l[a]?.getD undef)
theorem zv(l:List atY)(a b:Nat):Lp (Ty l a b)=Lp l:=by simp[Ty]
theorem mO{l:List atY}{a:Nat}(Z:a<Lp l)(hb:b<Lp l)(i:Nat):(Ty l a b)[i]?.getD undef=if i=b then l[a]?.getD undef else if i=a then l[b]?.getD undef else l[i]?.getD undef:=by
 unfold Ty;by_cases K:i=b
 ·subst K;rw[i7 rfl,tu (by simp[hb])];rfl
 rw[f8 K,pk (vA K)];by_cases H:i=a
 ·subst H;rw[i7 rfl,tu Z];rfl
 rw[f8 H,pk (vA H)]
theorem bG.apart'(h:bG w base vs L)(Th:i≠j)(hi:i<Lp L)(Z:j<Lp L)(K:(vs[i]?.getD undef).ownBlock=some k):(vs[j]?.getD undef).ownBlock≠some k:=by
 rcases Nat.lt_or_gt_of_ne Th with H|H
 ·exact h.apart i j k H Z K
 exact λe=>h.apart j i k H hi e K
theorem JP.swap{cap:Nat}(h:JP w base (some (IM G 0)) N cap vs M){a:Nat}(ha:a<N)(hb:b<N):
 JP ((w.setCell (IM G a) (vs[b]?.getD undef)).setCell (IM G b) (vs[a]?.getD undef)) base (some (IM G 0)) N cap (Ty vs a b) (xt M a b):=by
 have Z:a<Lp M:=by rw[h.len];exact ha
 have LZ:b<Lp M:=by rw[h.len];exact hb
 have hva:a<Lp vs:=by rw[h.IZ];exact ha
 have Ha:b<Lp vs:=by rw[h.IZ];exact hb
 have A4:∀i,i<Lp M->(xt M a b)[i]?.getD []=if i=b then M[a]?.getD [] else if i=a then M[b]?.getD [] else M[i]?.getD []:=λi _=>lz Z LZ i
 have MH:∀k,k≠G->((w.setCell (IM G a) (vs[b]?.getD undef)).setCell (IM G b) (vs[a]?.getD undef)).heap[k]?=w.heap[k]?:=λk H=>by rw[If _ _ _ _ H,If _ _ _ _ H]
 refine⟨?_,⟨by rw[zv,dZ];exact h.rows.len,λi hi=>?_,λi j k Th hj H r7=>?_⟩⟩
 ·have ho:=h.own;unfold E8 at ho;rw[h.IZ]at ho;have h1:=(W6 ho a (vs[b]?.getD undef)).1;have h2:=(W6 h1 b (vs[a]?.getD undef)).1;unfold E8;rw[zv,h.IZ];exact h2
 ·rw[dZ]at hi;have K:∀k,k<Lp M->y9 ((w.setCell (IM G a) (vs[b]?.getD undef)).setCell (IM G b) (vs[a]?.getD undef)) base (vs[k]?.getD undef) (M[k]?.getD []):=λk H =>
   (h.rows.row k H).keep λc hc=>MH c λe=>by subst e;exact(h.rows.row k H).apart h.own _ hc rfl
  rw[mO hva Ha,A4 i hi];split
  ·exact K a Z
  split
  ·exact K b LZ
  exact K i hi
 rw[dZ]at hj;rw[mO hva Ha]at H r7;have hi:i<Lp M:=O;have pick:∀i,i<Lp M->∃s,s<Lp M/\(if i=b then vs[a]?.getD undef else if i=a then vs[b]?.getD undef else vs[i]?.getD undef)=vs[s]?.getD undef/\s=(if i=b then a else if i=a then b else i):=λi hi=>by
  split
  ·exact⟨a,Z,rfl,rfl⟩
  split
  ·exact⟨b,LZ,rfl,rfl⟩
  exact⟨i,hi,rfl,rfl⟩
 have⟨s,hs,e1,Wo⟩:=pick i hi;have⟨t,ht,e2,e2'⟩:=pick j hj;rw[e1]at H;rw[e2]at r7;refine h.rows.apart' (i:=s) (j:=t) ?_ hs ht H r7;rw[Wo,e2'];split<;>split<;>(try split)<;>(try split)<;>omega
theorem bG.IA{w':J}{base':Nat}{v:atY}(h:bG w base vs L){us:List atY}(K:E8 w base' v us)(hg:w.grownBy w' v.ownBlock):bG w' base vs L :=
 h.keep λi k hi H=>hg.block k ((h.row i hi).lt k H).2 λe=>(h.row i hi).apart K k H e.symm
theorem dD.at'{cap:Nat}(h:dD w (some (IM G 0)) N cap L)(H:k<N):
 ∃a m c,w.cell? (IM G k)=some (FB a m c)/\d6 w a m c (L[k]?.getD []):=by
 have⟨b,off,a,m,c,K,hc,hr⟩:=h.at H;obtain⟨rfl,rfl⟩:=er K;rw[fs]at hc;exact⟨a,m,c,hc,hr⟩
theorem dD.Uc{cap:Nat}(h:dD w (some (IM G 0)) N cap L)(hd:d<=N):dD w (if cap=d then some (IM G 0) else some (IM G d)) (N-d) (cap-d) (L.drop d):=by
 refine⟨by rw[C3,h.hlen],by have:=h.y7;omega,by have:=h.y8;omega,λk H=>?_⟩;have hc:¬cap=d:=l8 h.y7;rw[f8 hc];refine⟨G,d,rfl,λk H=>?_⟩;have⟨a,m,c,Z,K⟩:=h.at' (k:=d+k) O;refine⟨a,m,c,Z,?_⟩;rw[QL];exact K
end
section
variable{w w' w1 w2:J}{a:o6}{n k base base' N i b b1 b2:Nat}{l B:o3}{fid:FuncId}{L M:List (o3)}{v v' x y z:atY}{vs us:List atY}{A:o4}{α:Type}{t:TypeId}
def QM(P:Program)(w:J)(fid:FuncId)(ca:Array atY)(p:o8->Bool):Prop :=
 ∀x y (w1:J),D4 w w1->Calls P fid (#[Ge x y]++ca) w1 λe w2=>e=atn (ato (p (x,y)))/\D4 w1 w2
def A3(h:σ:=by
 go_wp2_with rfl;refine HC.mono ?_;rintro e w2 ⟨rfl,C9⟩;go_wp2;go_ret;exact⟨au HF.symm,HX.trans C9⟩
 ):σ:=h
theorem ur{cap:Nat}{ca:Array atY}{p:o8->Bool}(h:i8 w a n cap l)(hg:Rd prog fid)(hf:QM prog w fid ca p):
 f9 219 #[FB a n cap,.func (.func fid) #[] ca] w (U (di p l)):=by
 have⟨hn,hm⟩:=h.ath;refine Fn h.hlen h hf λHL HI H=>?_;have VD:∀(args:Array atY) (w:J),(callFunc fid args).run prog w=.ok (.enter fid args) w:=hg;unfold f9;go_in
 go_wp2
 go_loopg [8] n (λgk ii wr=>∃k:Nat,e9 (gk+k=n)/\ii=U k/\e9 ((l.take k).all (λx=>!p x)=true)/\e9 (D4 w wr))
 ·exact FC
 obtain⟨k,HK,rfl,K,HX⟩:=hrel;by_cases hlt:k<n
 ·obtain⟨b,off,x,y,rfl,Z,Fo,FQ⟩:=(HI.ext HX).at hlt;have HC:=I (H x y wr HX);cases hb:p (x,y)
  all_goals
   rw[hb]at HC
  ·have HT:=I (show(l.take (k+1)).all (λx=>!p x)=true by
    rw[tn CI,p7,K.o];have:l[k]' CI=(x,y):=by rw[In CI]at Z;simpa using Z
    rw[this];simp[hb])
   exact R3
  have HF:e9 (di p l=k):=fP (d:=(0,0)) CI K.o (by rw[Z];exact hb);exact A3
 have HT:=I (show di p l=-1 by
  have h2:=K.o;rw[aP eo]at h2;exact eF h2)
 go_wp2;go_ret;exact⟨au HT.symm,HX⟩
theorem ic{cap:Nat}{ca:Array atY}{p:o8->Bool}(h:i8 w a n cap l)(hg:Rd prog fid)(H:QM prog w fid ca p):
 f9 138 #[FB a n cap,.func (.func fid) #[] ca] w (ato (l.any p)):=by
 have HC:=I (ur h hg H);exact Uo
theorem zO(x y:Int)(w:J):f9 244 #[Ge x y] w (ato (!A5 (x,y))):=by
 have X2:=I (D4.alloc w (SH #[U x,U y] 80));unfold f9;go_in
 go_wp2_with rfl;refine i6 (cK x y _) λw1 hx=>?_;exact Ni
theorem xz:Rd prog 244:=cE func244 k8 k8
theorem mZ{cap:Nat}(h:i8 w a n cap l):
 f9 161 #[FB a n cap] w (ato (Hf l)):=by
 have Z:=I (ic h xz (ca:=#[]) (p:=λr=>!A5 r) (λx y w1 _=>zO x y w1));have K:=I (show(!l.any (λr=>!A5 r))=Hf l by unfold Hf;rw[Y4];simp);unfold f9;go_in
 go_wp2_with rfl;refine i6 Z λw1 hx=>?_;have H:=I hx;go_wp2;go_ret;exact⟨ag K.o,H⟩
theorem uo(x y:Int)(w:J):f9 334 #[Ge x y] w (ato (!(A5 (x,y)&&decide (0<=x)))):=by
 have X2:=I (D4.alloc w (SH #[U x,U y] 80));have H:=I (λw=>cK x y w);cases Z:A5 (x,y)
 ·rw[Z]at H;unfold f9;go_in
  go_wp2_with rfl;refine i6 (H _) λw1 hx=>?_;exact Ni
 rw[Z]at H;cases B9:decide (0<=x)
 ·have K:decide (x<0)=true:=by simp at B9⊢;omega
  unfold f9;go_in
  go_wp2_with rfl;refine i6 (H _) λw1 hx=>?_;have hc:w1.cell? (IM w 0)=some (U x):=hx.o9 j9;exact Ni
 have K:decide (x<0)=false:=by simp at B9⊢;omega
 unfold f9;go_in
 go_wp2_with rfl;refine i6 (H _) λw1 hx=>?_;have hc:w1.cell? (IM w 0)=some (U x):=hx.o9 j9;exact Ni
theorem sG:Rd prog 334:=cE func334 k8 k8
theorem om{cap:Nat}(h:i8 w a n cap l)(m:Nat):
 f9 282 #[FB a n cap,U m] w (ato (decide (Lp l=m)&&LK l)):=by
 have⟨y7,y8⟩:=h.ath;refine Fn h.hlen (ic h sG (ca:=#[]) (p:=λr=>!(A5 r&&decide (0<=r.1))) (λx y w1 _=>uo x y w1)) (show(!l.any (λr=>!(A5 r&&decide (0<=r.1))))=LK l by unfold LK;rw[Y4];simp) λK HC HE=>?_;cases H:((n:Int) == (m:Int))
 ·have HN:=I (show decide (Lp l=m)=false by rw[K.o];simp at H⊢;omega);unfold f9;go_in
  go_wp2;go_ret;exact⟨ag V1,So⟩
 have HN:=I (show decide (Lp l=m)=true by rw[K.o];simp at H⊢;omega);unfold f9;go_in
 go_wp2_with rfl;refine i6 HC λw1 hx=>?_;have Z:=I hx;go_wp2;go_ret;exact⟨ag (by rw[HN.o,<-HE.o];simp),Z⟩
structure jx(w:J)(a:o6)(n cap:Nat)(L:List (o3)):Prop where
 hlen:L.length=n
 y7:n<=cap
 y8:cap<=9223372036854775807
 cell:∀k,k<n->∃b off,a=some (IM b off)/\∀k,k<n->∃a' n' c',w.cell? (IM b (off+k))=some (FB a' n' c')/\i8 w a' n' c' (L[k]?.getD [])
theorem jx.ath{w:J}{a:o6}{n cap:Nat}{L:List (o3)}(h:jx w a n cap L):n<=cap/\cap<=9223372036854775807:=⟨h.y7,h.y8⟩
theorem jx.ext{cap:Nat}(h:jx w a n cap L)(hx:D4 w w'):jx w' a n cap L :=
 ⟨h.hlen,h.y7,h.y8,λk H=>let⟨b,off,e,hc⟩:=h.cell k H;⟨b,off,e,λk H=>let⟨a',K,c',h1,Z⟩:=hc k H;⟨a',K,c',hx.o9 h1,Z.ext hx⟩⟩⟩
theorem jx.at{cap:Nat}(h:jx w a n cap L)(hk:k<n):
 ∃b off Z H K,a=some (IM b off)/\w.cell? (IM b (off+k))=some (FB Z H K)/\i8 w Z H K (L[k]?.getD []) :=
 let⟨b,off,e,hc⟩:=h.cell k hk;let⟨Z,H,K,h1,h2⟩:=hc k hk;⟨b,off,Z,H,K,e,h1,h2⟩
def Ir(w:J)(base:Nat)(v:atY)(vs:List atY):Prop:=w.ownsRow base 32 1 v (Lp vs) vs
theorem Ir.form(h:Ir w base v vs):∃a cap,v=FB a (Lp vs) cap/\Lp vs<=cap/\cap<=9223372036854775807:=by
 exact Xk
theorem Ir.var(h:Ir w base v vs):∃a n cap,v=FB a n cap/\e9 (Lp vs=n):=by
 obtain⟨a,cap,e,_⟩:=h.form;exact⟨a,_,cap,e,rfl⟩
theorem Ir.cell{cap:Nat}(h:Ir w base (FB a n cap) vs)(hk:k<n):∃g,a=some (IM g 0)/\base<=g/\∀k,k<n->w.cell? (IM g k)=vs[k]?:=by
 exact jj
theorem Ir.len{cap:Nat}(h:Ir w base (FB a n cap) vs):Lp vs=n:=by
 exact Un
theorem Ir.lt(h:Ir w base v vs):∀k,v.ownBlock=some k->base<=k/\k<w.heap.size:=VW h
theorem Ir.keep(h:Ir w base v vs)(hk:∀k,v.ownBlock=some k->w'.heap[k]?=w.heap[k]?):Ir w' base v vs:=by
 exact Td
theorem Ir.ext(h:Ir w base v vs)(hx:D4 w w'):Ir w' base v vs:=h.keep λk H=>hx.block k (h.lt k H).2
theorem ZM.apart(h:ZM w base v l)(h':Ir w base' v' vs):∀k,v.ownBlock=some k->v'.ownBlock≠some k:=by
 exact Vy
theorem Tryz.YO:(prog.info? 32).map (λi=>(i.zero,i.size,i.bytes))=some (some d9,1,24):=by kernel_rfl
section
variable{P:Program}{w:J}{ops:Array Oper}{rest:List Oper}{o:Oper}{a:Act}{Q:Exit->Act->J->Prop}
theorem gh{K:Act->J->Prop}(s x:Operand)(ho:o.op=.call { callee:=.builtin .append,args:=#[s,x],argTypes:=#[214,214] })
 (base:Nat) (v:atY) (vs:List atY) (hs:a.eval s=v) (FW:Ir w base v vs) (ad:Addr) (u:atY) (c:Nat) (hx:a.eval x=FB (some ad) 1 c)
 (H:w.cell? ad=some u) (h1c:u.oneCell'=true) (hb:Lp vs<=1099511627775) (Z:base<=w.heap.size)
 (h:∀v' w',Ir w' base v' (vs++[u])->w.grownBy w' v.ownBlock->Jv w v v'->K (a.put o.dst v') w'):o.wp prog a w K Q:=by
 have⟨i,hi,Hl,Mh,KZ⟩:=Q0 Tryz.YO;refine fO w s x 214 ho base 32 i d9 1 24 Tryz.underlying214 hi Hl Mh KZ rfl FS v (Lp vs) vs hs FW ad 1 c [u] hx rfl ?_ ?_ p8 O Z ?_
 ·intro j u' hu
  match j with
  | 0=>simpa[Addr.add]using hu▸H
  | j+1=>simp at hu
 ·intro u' hu;simp only[Nu]at hu;rw[hu];exact h1c
 intro v' w' h1 h2 h3;refine h v' w' ?_ h2 h3;unfold Ir;rw[ar];exact h1
end
structure ez(w:J)(base:Nat)(vs:List atY)(L:List (o3)):Prop where
 len:vs.length=L.length
 row:∀i,i<L.length->ZM w base (vs[i]?.getD undef) (L[i]?.getD [])
 apart:∀i j k,i<j->j<L.length->(vs[i]?.getD undef).ownBlock=some k->(vs[j]?.getD undef).ownBlock≠some k
theorem ez.keep(h:ez w base vs L)(H:∀i k,i<Lp L->(vs[i]?.getD undef).ownBlock=some k->w'.heap[k]?=w.heap[k]?):ez w' base vs L :=
 ⟨h.len,λi hi=>(h.row i hi).keep λk K=>H i k hi K,h.apart⟩
theorem ez.ext(h:ez w base vs L)(hx:D4 w w'):ez w' base vs L :=
 h.keep λi k hi H=>hx.block k ((h.row i hi).lt k H).2
theorem ez.nil(w:J)(base:Nat):ez w base [] []:=⟨rfl,λi hi=>absurd hi j9,λi j k _ H=>absurd H j9⟩
theorem ez.snoc(h:ez w base vs L)(hx:D4 w w')(ho:ZM w' w v l)(hb:base<=w.heap.size):ez w' base (vs++[v]) (L++[l]):=by
 exact KI
def rW(w:J)(base:Nat)(v:atY)(L:List (o3)):Prop:=∃vs,Ir w base v vs/\ez w base vs L
theorem rW.form(h:rW w base v L):∃a cap,v=FB a (Lp L) cap/\Lp L<=cap/\cap<=9223372036854775807:=by
 obtain⟨vs,K,H⟩:=h;have:=K.form
 rwa [H.len]at this
theorem rW.aiZ{cap:Nat}(h:rW w base (FB a n cap) L):jx w a n cap L:=by
 have⟨a',H,he,h1,h2⟩:=h.form;simp only[mn]at he;obtain⟨rfl,rfl,rfl⟩:=he;obtain⟨vs,h3,Z⟩:=h;refine⟨rfl,h1,h2,λk K=>?_⟩;obtain⟨g,rfl,_,hc⟩:=h3.cell K;refine⟨g,0,rfl,λk K=>?_⟩;have hv:k<Lp vs:=by rw[Z.len];exact K
 obtain⟨a',H,hf,_⟩:=(Z.row k K).form;have ho:=Z.row k K;rw[hf]at ho;refine⟨a',_,H,?_,ho.rats⟩;rw[fs,hc k K,<-hf];simp[hv]
structure JO(w:J)(base:Nat)(a:o6)(N cap:Nat)(vs:List atY)(M:List (o3)):Prop where
 own:Ir w base (FB a N cap) vs
 rows:ez w base vs M
theorem JO.IZ{cap:Nat}(h:JO w base a N cap vs M):Lp vs=N:=h.own.len
theorem JO.len{cap:Nat}(h:JO w base a N cap vs M):Lp M=N:=by rw[<-h.rows.len];exact h.own.len
theorem JO.keep{cap:Nat}(h:JO w base a N cap vs M)(Z:∀k,(FB a N cap).ownBlock=some k->w'.heap[k]?=w.heap[k]?)
 (K:∀i k,i<N->(vs[i]?.getD undef).ownBlock=some k->w'.heap[k]?=w.heap[k]?):JO w' base a N cap vs M :=
 ⟨h.own.keep Z,h.rows.keep λi k hi H=>K i k (by rw[<-h.len];exact hi) H⟩
theorem JO.ext{cap:Nat}(h:JO w base a N cap vs M)(hx:D4 w w'):JO w' base a N cap vs M:=⟨h.own.ext hx,h.rows.ext hx⟩
theorem JO.outer{cap:Nat}(h:JO w base a N cap vs M)(hN:0<N):∃G,a=some (IM G 0)/\base<=G/\G<w.heap.size/\∀j,w.frozen? (IM G j)=false:=by
 exact LS
theorem JO.row{G cap:Nat}(h:JO w base (some ⟨G,0,none⟩) N cap vs M)(hi:i<N)(hn:(M[i]?.getD []).length=n)(h1:1<=n):
 ∃g c,vs[i]?.getD undef=.slice (some ⟨g,0,none⟩) n c/\w.cell? ⟨G,i,none⟩=some (.slice (some ⟨g,0,none⟩) n c)/\ZM w base (.slice (some ⟨g,0,none⟩) n c) (M[i]?.getD [])/\g≠G/\base<=g/\g<w.heap.size/\n<=c/\c<=9223372036854775807:=by
 have hr:=h.rows.row i (by rw[h.len];exact hi);obtain⟨a',c,H,Z,IH⟩:=hr.form;rw[H]at hr;rw[hn]at H hr Z;obtain⟨g,rfl,hb,_,LW⟩:=hr.block (k:=0) O;obtain⟨G',K,_,hc⟩:=h.own.cell hi;simp only[Pi,gl,gi]at K;subst K;refine⟨g,c,H,?_,hr,λe=>hr.apart h.own g rfl (by subst e;rfl),hb,LW,Z,IH⟩;rw[hc i hi,<-H];have:i<vs.length:=by rw[h.IZ];exact hi
 simp[this]
theorem JO.put{w0:J}{G cap:Nat}(h:JO w0 base (some (IM G 0)) N cap vs M)(hx:D4 w0 w)(hb:base<=w0.heap.size)(ho:ZM w w0 v l)(hi:i<N):
 JO (w.setCell (IM G i) v) base (some (IM G 0)) N cap (vs.set i v) (M.set i l):=by
 have K2:i<Lp M:=by rw[h.len];exact hi
 have NG:i<Lp vs:=by rw[h.IZ];exact hi
 have hW:=h.ext hx;obtain⟨G',H,OH,VH,_⟩:=h.outer O;obtain rfl:=O2 H;have MH:∀k,k≠G->(w.setCell (IM G i) v).heap[k]?=w.heap[k]?:=λk hk=>If _ _ _ _ hk
 refine⟨?_,⟨by rw[km,km];exact h.rows.len,λk hk=>?_,λa b k VF F0 hk r7=>?_⟩⟩
 ·have ho:=hW.own;unfold Ir at ho;rw[hW.IZ]at ho;have:=(W6 ho i v).1;unfold Ir;rw[km,hW.IZ];exact this
 ·exact SE
 exact LB
theorem D4.store(h:D4 w w')(k:Nat)(hb:w.heap.size<=b)(v:atY):D4 w (w'.setCell (IM b k) v):=kb h (p:=(IM b k)) hb v
theorem D4.grown{w0:J}{row:Option Nat}(h:D4 w0 w)(hg:w.grownBy w' row)(hr:∀k,row=some k->w0.heap.size<=k):D4 w0 w':=aj h hg hr
def Ju(vs:List atY)(v:atY):Prop:=∀i k,i<Lp vs->(vs[i]?.getD undef).ownBlock=some k->v.ownBlock≠some k
theorem Ju.nil(v:atY):Ju [] v:=λi k h=>absurd h j9
theorem Ju.near(h:Ju vs v)(hr:bG w base vs A)(Z:Jv w v v'):Ju vs v':=by
 intro i k hi H KE;rcases Z k KE with K|K
 ·exact h i k hi H K
 have:=((hr.row i (by rw[<-hr.len];exact hi)).lt k H).2;omega
theorem Ju.snoc{B r:o7}{Z:atY}(h:Ju vs v)(hb:y9 w base v B)(hr:y9 w' w Z r):Ju (vs++[Z]) v:=by
 intro i k hi H KE;by_cases hl:i<Lp vs
 ·rw[nP hl]at H;exact h i k hl H KE
 have K:i=Lp vs:=by simp at hi;omega
 subst K;rw[Rx,NE]at H;have h1:=(hb.lt k KE).2;have h2:=(hr.lt k H).1;omega
structure D5(w:J)(base g:Nat)(va vb vc:atY)(vs:List atY)(A:o4)(B:o7)(C:o3):Prop where
 box:w.heap[g]?=some (SH #[va,vb,vc] 124 (0,0))
 hg:base<=g
 a:E8 w base va vs
 rows:bG w base vs A
 b:y9 w base vb B
 off:Ju vs vb
 c:ZM w base vc C
section
variable{w:J}{base g:Nat}{va vb vc:atY}{vs:List atY}{A:o4}{B:o7}{C:o3}
theorem D5.lt(h:D5 w base g va vb vc vs A B C):g<w.heap.size:=IO h.box
theorem D5.ext{w':J}(h:D5 w base g va vb vc vs A B C)(hx:D4 w w'):D5 w' base g va vb vc vs A B C :=
 ⟨(hx.block _ h.lt).trans h.box,h.hg,h.a.ext hx,h.rows.ext hx,h.b.ext hx,h.off,h.c.ext hx⟩
theorem D5.c0(h:D5 w base g va vb vc vs A B C):w.cell? (IM g 0)=some va:=by rw[UV w g 0 _ _ _ h.box];rfl
theorem D5.c1(h:D5 w base g va vb vc vs A B C):w.cell? (IM g 1)=some vb:=by rw[UV w g 1 _ _ _ h.box];rfl
theorem D5.c2(h:D5 w base g va vb vc vs A B C):w.cell? (IM g 2)=some vc:=by rw[UV w g 2 _ _ _ h.box];rfl
theorem D5.free(h:D5 w base g va vb vc vs A B C)(k:Nat):w.frozen? (IM g k)=false:=fy w g k _ _ h.box
theorem D5.new{w:J}{base:Nat}(hb:base<=w.heap.size):D5 (w.alloc (SH #[d9,d9,d9] 124)) base w d9 (d9) d9 [] [] [] [] :=
 ⟨nE _ _,hb,E8.nil _ _,bG.nil _ _,y4,Ju.nil _,og⟩
theorem D5.G9{x y z:atY}(h:w.heap[g]?=some (SH #[x,y,z] 124 (0,0))):w.cell? (IM g 0)=some x:=by rw[UV w g 0 _ _ _ h];rfl
theorem D5.G8{x y z:atY}(h:w.heap[g]?=some (SH #[x,y,z] 124 (0,0))):w.cell? (IM g 1)=some y:=by rw[UV w g 1 _ _ _ h];rfl
theorem D5.Hw{x y z:atY}(h:w.heap[g]?=some (SH #[x,y,z] 124 (0,0))):w.cell? (IM g 2)=some z:=by rw[UV w g 2 _ _ _ h];rfl
theorem D5.Hv{x y z:atY}(h:w.heap[g]?=some (SH #[x,y,z] 124 (0,0)))(k:Nat):w.frozen? (IM g k)=false:=fy w g k _ _ h
theorem D5.neA(h:D5 w base g va vb vc vs A B C):some g≠va.ownBlock:=aq h.a h.box FS
theorem D5.neB(h:D5 w base g va vb vc vs A B C):some g≠vb.ownBlock:=aq h.b h.box FS
theorem D5.neC(h:D5 w base g va vb vc vs A B C):some g≠vc.ownBlock:=aq h.c h.box FS
theorem D5.neR(h:D5 w base g va vb vc vs A B C){i:Nat}(hi:i<Lp A):some g≠(vs[i]?.getD undef).ownBlock:=aq (h.rows.row i hi) h.box FS
theorem D5.store{w w':J}{k:Nat}{v:atY}(hb:w.heap[g]?=some (SH #[va,vb,vc] 124 (0,0))):(w.setCell (IM g k) v).heap[g]?=some (SH (#[va,vb,vc].setIfInBounds k v) 124 (0,0)):=aM w g k _ _ v hb
def tq(h:σ:=by
 exact SJ.keep λi k hi hk=>GX k λe=>(aq (SJ.row i hi) GB FS) N3
 ):σ:=h
def PG(h:σ:=by
 exact ho.keep λk hk=>GX k λe=>(aq ho GB FS) N3
 ):σ:=h
def Yx(h:σ:=by
 exact RF.keep λk hk=>GX k λe=>(aq RF GB FS) N3
 ):σ:=h
def TV(h:σ:=by
 exact hC2.keep λk hk=>GX k λe=>(aq hC2 GB FS) N3
 ):σ:=h
def N7(h:σ:=by
 have:=D5.store (w:=w2) (w':=w2) (k:=0) (v:=QC) GB;exact this
 ):σ:=h
theorem D5.M8{w1 w2:J}(h:D5 w base g va vb vc vs A B C)(hx:D4 w w1){K QC:atY}{r:o7}(hr:y9 w1 w K r)(Wm:base<=w.heap.size)(Z:w1.grownBy w2 va.ownBlock)(ho:E8 w2 base QC (vs++[K]))(hn:Jv w1 va QC):
 D5 (w2.setCell (IM g 0) QC) base g QC vb vc (vs++[K]) (A++[r]) B C:=by
 have H:=h.ext hx;have GB:w2.heap[g]?=some (SH #[va,vb,vc] 124 (0,0)):=(Z.block g H.lt H.neA).trans H.box;have GX:∀k,k≠g->(w2.setCell (IM g 0) QC).heap[k]?=w2.heap[k]?:=λk hk=>If _ _ _ _ hk
 have RF:y9 w2 base vb B:=H.b.keep λk hk=>Z.block k (H.b.lt k hk).2 λe=>H.b.apart H.a k hk e.symm
 have hC2:ZM w2 base vc C:=H.c.keep λk hk=>Z.block k (H.c.lt k hk).2 λe=>aD FS H.c H.a k hk e.symm
 have ZO:bG w1 base (vs++[K]) (A++[r]):=h.rows.snoc hx hr Wm;have SJ:bG w2 base (vs++[K]) (A++[r]):=ZO.keep λi k hi hk=>Z.block k ((ZO.row i hi).lt k hk).2 λe=>(ZO.row i hi).apart H.a k hk e.symm
 refine⟨?_,h.hg,?_,?_,?_,h.off.snoc h.b hr,?_⟩
 ·exact N7
 ·exact PG
 ·exact tq
 ·exact Yx
 exact TV
def yv(h:σ:=by
 exact hA2.keep λk hk=>GX k λe=>(aq hA2 GB FS) N3
 ):σ:=h
theorem D5.pushB{w1 w2:J}(h:D5 w base g va vb vc vs A B C)(hx:D4 w w1){Vi:atY}{B':o7}(K:w1.grownBy w2 vb.ownBlock)(ho:y9 w2 base Vi B')(Z:Jv w1 vb Vi):
 D5 (w2.setCell (IM g 1) Vi) base g va Vi vc vs A B' C:=by
 have H:=h.ext hx;have GB:w2.heap[g]?=some (SH #[va,vb,vc] 124 (0,0)):=(K.block g H.lt H.neB).trans H.box;have GX:∀k,k≠g->(w2.setCell (IM g 1) Vi).heap[k]?=w2.heap[k]?:=λk hk=>If _ _ _ _ hk
 have hA2:E8 w2 base va vs:=H.a.keep λk hk=>K.block k (H.a.lt k hk).2 λe=>H.b.apart H.a k e.symm hk
 have hC2:ZM w2 base vc C:=H.c.keep λk hk=>K.block k (H.c.lt k hk).2 λe=>aD FS H.c H.b k hk e.symm
 have SJ:bG w2 base vs A:=H.rows.keep λi k hi hk=>K.block k ((H.rows.row i hi).lt k hk).2 λe=>H.off i k (by rw[H.rows.len];exact hi) hk e.symm
 refine⟨?_,h.hg,?_,?_,?_,H.off.near H.rows Z,?_⟩
 ·have:=D5.store (w:=w2) (w':=w2) (k:=1) (v:=Vi) GB;exact this
 ·exact yv
 ·exact tq
 ·exact PG
 exact TV
theorem D5.UC{w1 w2:J}(h:D5 w base g va vb vc vs A B C)(hx:D4 w w1){K:atY}{C':o3}(Z:w1.grownBy w2 vc.ownBlock)(ho:ZM w2 base K C'):
 D5 (w2.setCell (IM g 2) K) base g va vb K vs A B C':=by
 have H:=h.ext hx;have GB:w2.heap[g]?=some (SH #[va,vb,vc] 124 (0,0)):=(Z.block g H.lt H.neC).trans H.box;have GX:∀k,k≠g->(w2.setCell (IM g 2) K).heap[k]?=w2.heap[k]?:=λk hk=>If _ _ _ _ hk
 have hA2:E8 w2 base va vs:=H.a.keep λk hk=>Z.block k (H.a.lt k hk).2 λe=>aD FS H.a H.c k hk e.symm
 have RF:y9 w2 base vb B:=H.b.keep λk hk=>Z.block k (H.b.lt k hk).2 λe=>aD FS H.b H.c k hk e.symm
 have SJ:bG w2 base vs A:=H.rows.keep λi k hi hk=>Z.block k ((H.rows.row i hi).lt k hk).2 λe=>aD FS (H.rows.row i hi) H.c k hk e.symm
 refine⟨?_,h.hg,?_,?_,?_,h.off,?_⟩
 ·have:=D5.store (w:=w2) (w':=w2) (k:=2) (v:=K) GB;exact this
 ·exact yv
 ·exact tq
 ·exact Yx
 exact PG
theorem cz{w w2:J}{b1 b2:Nat}{e e':TypeId}{s s' n n':Nat}{v v':atY}{Z H:List atY}(h:w.ownsRow b1 e s v n Z)(h':w.ownsRow b2 e' s' v' n' H)(K:e≠e')(GQ:w.grownBy w2 v'.ownBlock):w2.ownsRow b1 e s v n Z :=
 h.kept GQ (by
  cases hv:v.ownBlock with
  | none=>exact .inl rfl
  | some k=>exact .inr λe2=>aD K h h' k hv e2.symm)
theorem bg{w:J}{b1 g k:Nat}{e e':TypeId}{s n:Nat}{v u:atY}{K:List atY}{c:Array atY}{z:Nat×Nat}(h:w.ownsRow b1 e s v n K)(hb:w.heap[g]?=some (SH c e' z))(H:e≠e'):(w.setCell (IM g k) u).ownsRow b1 e s v n K:=by
 refine⟨h.1,?_⟩;rcases h.2 with Z|⟨g',cap,cur,rfl,GY,K3,rest⟩
 ·exact .inl Z
 refine .inr ⟨g',cap,cur,rfl,GY,?_,rest⟩;rw[If _ _ _ _ λe2=>by subst e2;exact aq h hb H rfl];exact K3
theorem D5.QU{w1 w2:J}(h:D5 w base g va vb vc vs A B C)(hx:D4 w w1)(hg:w1.grownBy w2 va.ownBlock):w2.heap[g]?=some (SH #[va,vb,vc] 124 (0,0)):=(hg.block g (h.ext hx).lt (h.ext hx).neA).trans (h.ext hx).box
theorem D5.QT{w1 w2:J}(h:D5 w base g va vb vc vs A B C)(hx:D4 w w1)(hg:w1.grownBy w2 vb.ownBlock):w2.heap[g]?=some (SH #[va,vb,vc] 124 (0,0)):=(hg.block g (h.ext hx).lt (h.ext hx).neB).trans (h.ext hx).box
theorem D5.adz{w1 w2:J}(h:D5 w base g va vb vc vs A B C)(hx:D4 w w1)(hg:w1.grownBy w2 vc.ownBlock):w2.heap[g]?=some (SH #[va,vb,vc] 124 (0,0)):=(hg.block g (h.ext hx).lt (h.ext hx).neC).trans (h.ext hx).box
theorem A9.IA{α:Type}{E:kf α}{t:TypeId}{w w1 w2:J}{b1 b2:Nat}{v v':atY}{l:List α}{us:List atY}(h:A9 E t w b1 v l)(hx:D4 w w1)(K:E8 w b2 v' us)(H:t≠29)(Z:w1.grownBy w2 v'.ownBlock):A9 E t w2 b1 v l :=
 cz (h.ext hx) (K.ext hx) H Z
theorem A9.ZV{α:Type}{E:kf α}{t:TypeId}{w w1 w2:J}{b1 b2:Nat}{v v':atY}{l:List α}{us:o7}(h:A9 E t w b1 v l)(hx:D4 w w1)(K:y9 w b2 v' us)(H:t≠3)(Z:w1.grownBy w2 v'.ownBlock):A9 E t w2 b1 v l :=
 cz (h.ext hx) (K.ext hx) H Z
theorem A9.ZU{α:Type}{E:kf α}{t:TypeId}{w w1 w2:J}{b1 b2:Nat}{v v':atY}{l:List α}{us:o3}(h:A9 E t w b1 v l)(hx:D4 w w1)(K:ZM w b2 v' us)(H:t≠80)(Z:w1.grownBy w2 v'.ownBlock):A9 E t w2 b1 v l :=
 cz (h.ext hx) (K.ext hx) H Z
theorem A9.Xk{α:Type}{E:kf α}{t:TypeId}{w:J}{b1 g:Nat}{v x y z:atY}{l:List α}(h:A9 E t w b1 v l)(hb:w.heap[g]?=some (SH #[x,y,z] 124 (0,0)))(H:t≠124)(k:Nat)(u:atY):A9 E t (w.setCell (IM g k) u) b1 v l :=
 bg h hb H
end
theorem E8.mono'(h:E8 w base v vs)(hb:base'<=base):E8 w base' v vs:=by
 exact Sm
theorem bZ.mono'{L:o4}(h:bZ w base v L)(hb:base'<=base):bZ w base' v L :=
 let⟨vs,h1,h2⟩:=h;⟨vs,h1.mono' hb,⟨h2.len,λi hi=>(h2.row i hi).mono hb,h2.apart⟩⟩
theorem y9.Sm{l:o7}{us:o3}(h:y9 w b1 v l)(hx:D4 w w1)(H:ZM w b2 v' us)(K:w1.grownBy w2 v'.ownBlock):y9 w2 b1 v l :=
 cz (h.ext hx) (H.ext hx) FS K
theorem ZM.YK{us:o7}(h:ZM w b1 v l)(hx:D4 w w1)(H:y9 w b2 v' us)(K:w1.grownBy w2 v'.ownBlock):ZM w2 b1 v l :=
 cz (h.ext hx) (H.ext hx) FS K
theorem ZM.Mf(h:ZM w b1 v l)(hx:D4 w w1)(H:E8 w b2 v' us)(K:w1.grownBy w2 v'.ownBlock):ZM w2 b1 v l :=
 cz (h.ext hx) (H.ext hx) FS K
theorem y9.Mf{l:o7}(h:y9 w b1 v l)(hx:D4 w w1)(H:E8 w b2 v' us)(K:w1.grownBy w2 v'.ownBlock):y9 w2 b1 v l :=
 cz (h.ext hx) (H.ext hx) FS K
theorem d6.afF{W:J}(l:o7)(t:TypeId){m:Nat}(hm:Lp l=m){cs:Array atY}(H:cs=bF l)(K:n=W.heap.size)(hb:m<=1099511627776):d6 (W.alloc (SH cs t)) (some (IM n 0)) m m l:=by
 subst K H;exact(show kg (W.alloc (SH (bF l) t)) W t l from nE W _).ints hm (m9 _) O
theorem i8.two(W:J)(x y x' y':Int)(t:TypeId)(H:n=W.heap.size):i8 (W.alloc (SH #[U x,U y,U x',U y'] t)) (some (IM n 0)) 2 2 [(x,y),(x',y')]:=by
 subst H;exact⟨rfl,m9 _,by omega,λk K=>⟨_,0,rfl,λk K=>by
  have:k=0∨k=1:=O;rcases this with rfl|rfl<;>simp⟩⟩
theorem bG.mono'{L:o4}(h:bG w base vs L)(hb:base'<=base):bG w base' vs L:=⟨h.len,λi hi=>(h.row i hi).mono hb,h.apart⟩
theorem D4.blk(hx:D4 w w'){o:Obj}(h:w.heap[b]?=some o):w'.heap[b]?=some o:=(hx.block b (IO h)).trans h
theorem vi{row:Option Nat}(hg:w.grownBy w' row){o:Obj}(h:w.heap[b]?=some o)(H:some b≠row):w'.heap[b]?=some o:=(hg.block b (IO h) H).trans h
theorem mC{Z:Nat}{c c':Array atY}{t':TypeId}{z z':Nat×Nat}(h:w.heap[b]?=some (SH c t z))(K:w.heap[Z]?=some (SH c' t' z'))(H:t≠t'):b≠Z:=by
 intro e;subst e;rw[h]at K;simp only[Pi,Tc]at K;exact H K.2.1
theorem OV(h:w.heap[b]?=some (SH #[x,y] t (0,0))):w.cell? (IM b 0)=some x:=by rw[UV w b 0 _ _ _ h];rfl
theorem HH(h:w.heap[b]?=some (SH #[x,y] t (0,0))):w.cell? (IM b 1)=some y:=by rw[UV w b 1 _ _ _ h];rfl
structure L6(w:J)(a:o6)(na ca:Nat)(b:o6)(nb cb:Nat)(c:o6)(nc cc:Nat)(A:o4)(B:o7)(C:o3):Prop where
 a:dD w a na ca A
 b:d6 w b nb cb B
 c:i8 w c nc cc C
theorem L6.ext{H ca:Nat}{b:o6}{nb cb:Nat}{c:o6}{nc cc:Nat}{B:o7}{C:o3}(h:L6 w a H ca b nb cb c nc cc A B C)(hx:D4 w w'):L6 w' a H ca b nb cb c nc cc A B C :=
 ⟨h.a.ext hx,h.b.ext hx,h.c.ext hx⟩
abbrev JI(a:o6)(na ca:Nat)(b:o6)(nb cb:Nat)(c:o6)(nc cc:Nat):atY:=.agg #[FB a na ca,FB b nb cb,FB c nc cc]
abbrev bT(a:o6)(na ca:Nat)(b:o6)(nb cb:Nat)(c:o6)(nc cc:Nat):Obj:=SH #[FB a na ca,FB b nb cb,FB c nc cc] 124
theorem uW{A:o3}{s:o8}(h:IB A B k=some s):IB A B (k+1)=if(cn (A[k]?.getD (0,0)) (B[k]?.getD (0,0))).2=true/\(F6 s (cn (A[k]?.getD (0,0)) (B[k]?.getD (0,0))).1).2=true
 then some (F6 s (cn (A[k]?.getD (0,0)) (B[k]?.getD (0,0))).1).1 else none:=by simp only[IB,h,kx]
theorem lM{A:o3}(h:IB A B k=none):∀{n:Nat},k<=n->IB A B n=none
 | n,hn=>by
   obtain⟨d,rfl⟩:∃d,n=k+d:=⟨n-k,by omega⟩;clear hn
   induction d with
   | zero=>exact h
   | succ d ih=>show(IB A B (k+d)).bind _=none;rw[ih];rfl
def F9(o:Option (Int×Int)):(Int×Int)×Bool:=(o.getD (0,0),o.isSome)
def Sq(h:σ:=by
 obtain⟨k,p,q,HK,rfl,HB,HT⟩:=hrel;have I7:=HB.c0;have Gm:=HB.c1;have LZ:=HB.lt;have afU:=HB.ext.size;by_cases hlt:k<n
 ·have⟨ab,Np,ax,ay,ha,UT,KI,KH⟩:=(HIA.ext (A6.trans HB.ext)).at hlt;have⟨bb,NU,bx,by',hb,Gu,PQ,PO⟩:=(HIB.ext (A6.trans HB.ext)).at hlt;subst ha hb;obtain⟨mx,my,one,hm⟩:∃x y ok,cn (ax,ay) (bx,by')=((x,y),ok):=⟨_,_,_,rfl⟩;have HM:=I hm;obtain⟨p2,q2,two,Pa⟩:∃u v ok,F6 (p,q) (mx,my)=((u,v),ok):=⟨_,_,_,rfl⟩;have IN:=I Pa;have Hx:=I (show IB A B (k+1)=if one=true/\two=true then some (p2,q2) else none by rw[uW HT.o,UT,Gu,hm];simp only;rw[Pa]);clear UT Gu hm Pa;go_upto_region 7 with rfl
  go_cut [8,9] (λsx so wx=>∃g:Nat,sx=ats (some (IM g 0))/\so=ato one/\e9 (ai wr wx g mx my))
  case first =>
   have r7:D4 wr wr.drew:=D4.drew wr;have Fu:D4 wr (wr.alloc (SH #[U 0,U 0] 80)).drew:=ZL.trans fl;have r8:=I (λ(w':J) (h:D4 wr w')=>(an (h.o9 KI) (an (h.o9 KH) (an (h.o9 PQ) (an (h.o9 PO) h)))))
   go_region_held3 (λw'=>w'.cell? (IM ab (Np+k*2))=some (U ax)/\w'.cell? (IM ab (Np+k*2+1))=some (U ay)/\w'.cell? (IM bb (NU+k*2))=some (U bx)/\w'.cell? (IM bb (NU+k*2+1))=some (U by')/\D4 wr w')
    (exact yg)
    (first
      | ((with_reducible refine(qq0 ax ay bx by' _).mono ?_)
         rw[HM.o];rintro e w3 ⟨rfl,D3⟩
         try with_reducible first|have A7:=ai.grow A7 D3|have A7:=ai.Fk D3|have A7:=ai.Fq r7 D3
         try(have Ko:=A7.c0;have Kn:=A7.c1;have L4:=A7.free)
         have r7:D4 wr w3:=TP;have G7:=r7.size))
   all_goals(exact yx)
  obtain⟨g,rfl,rfl,FJ⟩:=hcut;have g0:=FJ.c0;have g1':=FJ.c1;have MJ:=HB.grow FJ.ext;have Ua:=MJ.c0;have T':=MJ.c1;have F1:=I MJ;clear I7 Gm KI KH PQ PO MJ;go_wp2_with rfl;refine(qq1 p q mx my _).mono ?_;rw[IN.o];rintro e w4 ⟨rfl,E4⟩;have Hc:=I (F1.grow E4);have FG:=I (Hc.grow (D4.alloc _ (SH #[U p2,U q2] 80)));have hr:=bO (IE _ FG.ext);obtain⟨FH,FL,JR⟩:=hr;have Hh:=I FG.ext;have hbf:=FG.free;have hb5l:=Hc.lt;have Hr:=Hc.ext.size;have h40:=Hc.c0;have h41:=Hc.c1;have h4f:=Hc.free;clear E4 g0 g1' Ua T';cases one
  ·have HN:=I (show Fs A B=none by rw[HD.o];exact lM (k:=k+1) (by rw[Hx.o];simp) hlt);go_wp2;refine GE W4 rfl ⟨by rw[HN.o];rfl,(((Ig.trans Hh).store 0 (m9 _) _).store 1 (m9 _) _)⟩
  cases two
  ·have HN:=I (show Fs A B=none by rw[HD.o];exact lM (k:=k+1) (by rw[Hx.o];simp) hlt);go_wp2;refine GE W4 rfl ⟨by rw[HN.o];rfl,(((Ig.trans Hh).store 0 (m9 _) _).store 1 (m9 _) _)⟩
  have GJ:=I (show IB A B (k+1)=some (p2,q2)by rw[Hx.o];simp);have Ke:=I ((Hc.put p2 q2).grow (D4.alloc _ (SH #[U p2,U q2] 80)));go_wp2_with rfl;refine dk ?_;exact⟨k+1,p2,q2,I (l8 HK.o),by go_num,Ke,GJ⟩
 ·have E':n=k:=by have:=HK.o;omega
  subst E';have HY:=I (show Fs A B=some (p,q)by rw[HD.o];exact HT);have hr:=bO (IE wr HB.ext);obtain⟨FH,FL,JR⟩:=hr;go_wp2;refine GE W4 rfl ⟨by rw[HY.o];rfl,(((Ig.trans HB.ext).store 0 (m9 _) _).store 1 (m9 _) _)⟩
 ):σ:=h
def Rm(h:σ:=by
 have HN:=I (show Fs A B=none by unfold Fs;rw[HL.o,M4.o,f8 hne]);have UO:((n:Int) != (n':Int))=true:=by simp;omega
 have hr:=bO E6.o;obtain⟨FH,FL,JR⟩:=hr;(try unfold f9);go_in
 go_wp2;refine GE Ix rfl ⟨by rw[HN.o];rfl,B4⟩
 ):σ:=h
theorem iA{b:o6}{cap n' H:Nat}{A:o3}(h:i8 w a n cap A)(h':i8 w b n' H B):
 f9 280 #[FB a n cap,FB b n' H] w (Kg (F9 (Fs A B))):=by
 have HL:=I h.hlen;have M4:=I h'.hlen;have y7:=h.y7;have y8:=h.y8;have ZI:=h'.y7;have Zt:=h'.y8;have K:=D4.alloc w (SH #[.int .i64 0,.int .i64 0] 80);refine Op (h.ext K) (h'.ext K) K (ah w (SH #[.int .i64 0,.int .i64 0] 80) _ rfl) λHIA HIB B4 E6=>?_;clear h h' K;by_cases hne:n=n'
 ·subst hne;have HD:=I (show Fs A B=IB A B n by unfold Fs;rw[HL.o,M4.o,i7 rfl]);have UO:((n:Int) != (n:Int))=false:=by simp
  (try unfold f9);go_in
  go_wp2_with rfl;refine i6 (cW 0 _) λw1 B0=>?_;have A6:=I B0;have Mo:=I (ai.new (D4.refl w1) 0 1);have IE:=I (λ(w':J) (hx:D4 w1 w')=>(hx.block _ Um).trans ((A6.block _ (IO E6)).trans E6));have Ig:=I (B4.trans A6);have Ze:w.heap.size<w1.heap.size:=by have:=IO E6.o;have:=A6.size;omega
  clear B0;go_wp2
  go_loopg [21] n (λgk Z wr=>∃(k:Nat) (p q:Int),e9 (gk+k=n)/\Z=.int .i64 (k:Int)/\e9 (ai w1 wr w1 p q)/\e9 (IB A B k=some (p,q)))
  ·exact⟨0,0,1,I O,rfl,Mo,I rfl⟩
  have qq0:=@xK;have qq1:=@kW;have qq2:=@Y7;exact Sq
 have qq0:=@Y7;exact Rm
theorem uP{j:Nat}(h:k<Lp A):FV (A.take k) j++[(A[k]?.getD [])[j]?.getD 0]=FV (A.take (k+1)) j:=by
 rw[fE h];simp[FV]
def p3(h:σ:=by
 subst Kk;obtain⟨eb,D6,rfl,hec⟩:=A4.at hj;have⟨x,hx⟩:=j7 ((A[k]?.getD [])[j]?.getD 0);rw[<-hx]at hec;have HS:=I (show FV (A.take k) j++[x]=FV (A.take (k+1)) j by rw[hx];exact uP CI);have Va:=I (show(FV (A.take k) j).length=k by simp[FV];have:=HL.o;omega);have NI:=A4.y7;have hrm:=A4.y8;clear A4 hx
 go_wp2_with (first
  | (at_builtin;refine Wp x HO1 A6 (by rw[Va.o];omega) λa2 n2 c2 w3 Jb X5 Gh=>?_))
 refine dk ?_;exact⟨k+1,a2,n2,c2,I (l8 HK.o),by go_num,rfl,I (by rw[<-HS.o];exact Gh),X5⟩
 ):σ:=h
def Jx(h:σ:=by
 go_wp2;go_ret;exact⟨⟨_,rfl,HO1.mono (bq _)⟩,B4.trans A6.o⟩
 ):σ:=h
theorem xO{H ca:Nat}{b:o6}{nb cb:Nat}{c:o6}{nc cc:Nat}(h:dD w a H ca A){m j:Nat}(hl:∀i,i<H->Lp (A[i]?.getD [])=m)(hj:j<m)(hm:m<=1000000)(hbig:H<=1048576):
 Calls prog 281 #[JI a H ca b nb cb c nc cc,U j] w λe w'=>(∃v,e=atn v/\y9 w' w v (FV A j))/\D4 w w':=by
 have⟨y7,y8⟩:=h.ath;have HL:=I h.hlen;have B9:=D4.alloc w (bT a H ca b nb cb c nc cc);refine Op B9 (h.ext B9) hl (y9.Ft (w.alloc (bT a H ca b nb cb c nc cc)) (w+1) _ rfl j9) λB4 HI Gq HO=>?_;go_in
 go_wp2
 go_loopg [5,12] H (λgk o ii wr=>∃(k:Nat) (a1:o6) (Z K:Nat),e9 (gk+k=H)/\ii=U k/\o=FB a1 Z K/\e9 (y9 wr (w+1) (FB a1 Z K) (FV (A.take k) j))/\e9 (D4 (w.alloc (bT a H ca b nb cb c nc cc)) wr))
 ·exact⟨0,_,_,_,I O,rfl,rfl,I (by simpa[FV]using HO.o),I ZL⟩
 obtain⟨k,a1,Z,K,HK,rfl,rfl,HO1,A6⟩:=hrel;have hsz:=A6.size;rw[Mc]at hsz;by_cases hlt:k<H
 ·obtain⟨gb,L0,ra,rn,rc,rfl,PL,A4⟩:=(HI.ext A6).at hlt;have Kk:rn=m:=by rw[<-A4.hlen];exact Gq.o k hlt
  exact p3
 have E':H=k:=l8 HK.o;subst E';have HT:e9 (A.take H=A):=aP hI;rw[HT.o]at HO1;exact Jx
section
def E5(h:σ:=by simp;rfl):σ:=h
def Zz(h:σ:=by rw[N1.o];exact Jr):σ:=h
def wz(h:σ:=by have:=RV.2 c;have:=Rj.o;omega):σ:=h
def QI(h:σ:=by have:=Lc.2 c;have:=SQ.o;omega):σ:=h
def xv(h:σ:=by rw[HLJ.o];omega):σ:=h
def Se(h:σ:=by simp[results,results327,go_sem]):σ:=h
def tg(h:σ:=by rw[Lc.1];exact JK):σ:=h
def G2(h:σ:=by rw[Hk.o];exact hdN):σ:=h
def ZR(h:σ:=by rw[Hk.o];exact UP):σ:=h
def WD(h:σ:=by rw[cD (l8 HL.o),rN,<-HS.o];exact Ri):σ:=h
def Ta(h:σ:=by rw[Hk.o];omega):σ:=h
def sq{P Q:Prop}(q:Q)(h:Q->P:=by intro q;go_roundg (gk-1);exact q;have:=HJ.o;omega):P:=h q
variable{w:J}{a:o6}{l:o7}
theorem Ys{c:Nat}{p r:o7}{j:Nat}(h:j<Lp r):(FK c p r).take j++[r[j]?.getD 0*p[c]?.getD 0-r[c]?.getD 0*p[j]?.getD 0]=(FK c p r).take (j+1):=by
 rw[cD (by rw[fI];exact h),kL h]
def I1(h:σ:=by
 exact⟨0,_,_,_,I O,rfl,rfl,HO1,I ZL⟩
 ):σ:=h
def ck(h:σ:=by
 have:=HK.o;omega
 ):σ:=h
def GK(h:σ:=by
 go_wp2_with rfl;refine qq0 ?_;exact⟨c+1,d+1,vs1,_,I (l8 HK3.o),by go_num,by go_num,Qb,M3,Io⟩
 ):σ:=h
theorem ER{base:Nat}{N cap n:Nat}{vs0:List atY}{M:o4}(h:JP w base a N cap vs0 M)(hg:mo n 1 M)(h1:1<=n)(h5:n<=5)(hN:N<=1048576)(hb:base<=w.heap.size):
 Calls prog 322 #[FB a N cap,.int .i64 (n:Int)] w λe w'=>e=atn (.int .i64 ((WF FK M n).2:Int))/\Below base w w':=by
 have ZG:=h.cap.1;have ZH:=h.cap.2;refine Fn h hg h.len λWz HG OW=>?_;clear h hg;go_in
 go_wp2
 go_loopg [5,6] n (λgk rk jj wr=>∃(c d:Nat) (vs:List atY) (K:o4),e9 (gk+c=n)/\jj=.int .i64 (c:Int)/\rk=.int .i64 (d:Int)/\e9 (WF FK M c=(K,d))/\e9 (JP wr base a N cap vs K)/\e9 (Below base w wr))
 ·exact⟨0,0,vs0,M,I O,rfl,rfl,I rfl,Wz,I (Y' _ _)⟩
 rename Nat=>g1;rename J=>A1;obtain⟨c,d,vs,K,HK3,rfl,rfl,HR,HM,HB⟩:=hrel;by_cases hlt:c<n
 ·have D9:=kM zx HG.o c O;rw[HR.o]at D9;obtain⟨SE,hKl,hdN,PK⟩:=D9;simp only at SE hKl hdN PK;have HGD:=I PK;have Hk:=I (show Lp K=N by rw[hKl,OW.o]);rw[OW.o]at hdN;have⟨P,hP⟩:=j7 (GP K c d);have HP:=I hP;have hpb:=AL K c (d:=d) G2;rw[<-hP,Hk.o]at hpb;obtain⟨hdP,hPN⟩:=hpb;have afS:=HB.size;clear hKl PK hP;go_wp2
  go_loop [7] (λat7=>∃k:Nat,at7=.int .i64 (k:Int)/\e9 (d<=k)/\e9 (k<=P)) (λat7=>P-(intOf at7).toNat)
  ·exact⟨d,rfl,I (m9 _),I hdP⟩
  obtain⟨k,rfl,HDK,OY⟩:=hrel;have LY:=HDK.o;have Zw:=OY.o;by_cases hkP:k<P
  ·have UP:k<N:=by omega
   obtain⟨G,rfl,_,_,_⟩:=HM.outer O;obtain⟨g,gc,hvs,hcell,FW,hne,_,_,_,_⟩:=HM.row UP (HGD k ZR).1 h1;have⟨b,off,he,Fo⟩:=FW.ints.at hlt;simp only[Pi,gl,gi]at he;obtain⟨rfl,rfl⟩:=he;rw[fs,Eu G2 LY (by rw[<-HP.o];exact hkP)]at Fo;clear hvs FW hne;go_wp2
   go_round
   case rel=>exact⟨k+1,by go_num,I O,I O⟩
   simp[intOf];omega
  have hkP':k=P:=O;subst hkP';by_cases UP:k<N
  ·obtain⟨G,rfl,OH,VH,KG⟩:=HM.outer O;have QP:=KG k;have VB:=KG d;clear KG;have Mi:=fA (M:=K) (c:=c) (d:=d) (by rw[<-HP.o,Hk.o];exact UP);rw[<-HP.o]at Mi;have⟨gp,cp,hvp,T8,Z,hnp,hbp,hgpl,hncp,hcpm⟩:=HM.row UP (HGD k ZR).1 h1;have⟨gd,cd,hvd,hcd,hod,hnd,Kw,hgdl,hncd,hcdm⟩:=HM.row (show d<N by omega) (HGD d Ta).1 h1;have⟨b,off,he,Fo⟩:=Z.ints.at hlt;simp only[Pi,gl,gi]at he;obtain⟨rfl,rfl⟩:=he;rw[fs]at Fo;have⟨pc,hpc⟩:=j7 ((K[k]?.getD [])[c]?.getD 0);rw[<-hpc]at Fo Mi;have TT:pc≠0:=Mi.2.1;have hpcb:(pc == 0)=false:=by simpa using TT
   have Oc:=HM.swap UP (show d<N by omega);rw[hvp,hvd]at Oc;have⟨M1,VG⟩:=j7 (xt K k d);have⟨ab,Su⟩:=j7 (Ty vs k d);have HVP:=I (show ab[d]?.getD undef=FB (some ⟨gp,0,none⟩) n cp by rw[Su,mO (by rw[HM.IZ];exact UP) (by rw[HM.IZ];omega),i7 rfl,hvp]);have Uw:=I (show mo n (Tn d) M1 by rw[VG];exact kU HGD.o ZR Ta);have N1:=I (show Lp M1=N by rw[VG,dZ,Hk.o]);have Qb:=I (show WF FK M (c+1)=(II FK c M1 d N,d+1)by
    show JM FK c (WF FK M c)=_;rw[HR.o];unfold JM;simp only;rw[<-HP.o,Hk.o,i7 UP,VG,W5 K (a:=k) (b:=d) ZR Ta])
   rw[<-VG,<-Su]at Oc;have J':=I Oc;have Jr:d<N:=O;have GL:=I ((HB.setCell (p:=⟨G,k,none⟩) OH (FB (some ⟨gd,0,none⟩) n cd)).setCell (p:=⟨G,d,none⟩) OH (FB (some ⟨gp,0,none⟩) n cp));clear Oc Mi Z hod hpc hvp hvd VG Su;by_cases C4:d=k
   case' pos =>
    subst C4;have Ii:=T8.symm.trans hcd;simp only[Pi,mn,gl,gi,W2]at Ii;obtain⟨rfl,rfl⟩:=Ii;clear hcd
   case' neg=>have hkd':¬k=d:=λe=>C4 e.symm
   all_goals
    go_wp2_with rfl;clear T8
    try clear hcd
    have ams:=I OH
    go_loopg [9] (N-(d+1)) (λg3 i H=>∃(t:Nat) (vs1:List atY),e9 (g3+t=N)/\i=.int .i64 (t:Int)/\e9 (d<t)/\e9 (JP H base (some ⟨G,0,none⟩) N cap vs1 (II FK c M1 d t))/\e9 (Below base w H)/\e9 (vs1[d]?.getD undef=FB (some ⟨gp,0,none⟩) n cp))
    ·exact⟨d+1,ab,I O,by go_num,I O,I (by rw[tp];exact J'),GL,HVP⟩
    rename Nat=>g3;rename J=>H;obtain⟨t,vs1,HK,rfl,HDT,M3,Io,HV3⟩:=hrel;by_cases htN:t<N
    ·have hdt:=HDT.o;have HGR:e9 (mo n (Tn (d+1)) (II FK c M1 d t)):=qT Uw.o (iN d O).2.2 Zz λp r MG Nf h5 h6=>zx _ n c p r (iN d O).1 MG Nf h5 h6;have GN:=I (show(II FK c M1 d t).length=N by rw[eE,N1.o]);obtain⟨G',JL,_,hGl3,KG⟩:=M3.outer O;simp only[Pi,gl,gi]at JL;subst JL;have hft:=KG t;clear KG;obtain⟨gt,ct,TQ,hct,Qp,hnt,_,_,hnct,hctm⟩:=M3.row htN (HGR t (by rw[GN.o];exact htN)).1 h1;obtain⟨gp',cp',hvp,hcp3,Z,hnp3,_,_,_,_⟩:=M3.row Jr (HGR d (by rw[GN.o];exact Jr)).1 h1;have Ii:=HV3.symm.trans hvp;simp only[mn,Pi,gl,gi,W2]at Ii;obtain⟨rfl,rfl⟩:=Ii;rw[jo _ _ _ _ _ _ (by rw[N1.o];exact htN) O]at Qp;rw[jo _ _ _ _ _ _ Zz O]at Z;have⟨r,hr⟩:=j7 (M1[t]?.getD []);have⟨p,hp⟩:=j7 (M1[d]?.getD []);rw[<-hr]at Qp;rw[<-hp]at Z;have Lc:=I (Uw t (by rw[N1.o];exact htN));have RV:=I (Uw d Zz);rw[<-hr]at Lc;rw[<-hp]at RV;refine Op Qp Z hr hp λHOT NA GV KT=>?_;have⟨b,off,he,Fo⟩:=Qp.ints.at hlt;simp only[Pi,gl,gi]at he;obtain⟨rfl,rfl⟩:=he;rw[fs]at Fo;have⟨b,off,he,TT⟩:=Z.ints.at hlt;simp only[Pi,gl,gi]at he;obtain⟨rfl,rfl⟩:=he;rw[fs]at TT;have⟨rc,NI⟩:=j7 (r[c]?.getD 0);have⟨pc,hpc⟩:=j7 (p[c]?.getD 0);rw[<-NI]at Fo;rw[<-hpc]at TT;refine Fn NI hpc (y9.Ft H H _ rfl (m9 _)) λSQ Rj HO1=>?_;clear TQ hvp Qp Z hr hp NI hpc;go_wp2
     go_loopg [11,12] n (λg4 nx kk wr4=>∃(j:Nat) (a1:o6) (n1 p1:Nat),e9 (g4+j=n)/\kk=.int .i64 (j:Int)/\nx=FB a1 n1 p1/\e9 (y9 wr4 H (FB a1 n1 p1) ((FK c p r).take j))/\e9 (D4 H wr4))
     ·exact⟨0,_,_,_,I O,rfl,rfl,HO1,I ZL⟩
     obtain⟨j,a1,n1,p1,HJ,rfl,rfl,Gh,aa⟩:=hrel;have Wb:=aa.size;by_cases JK:j<n
     ·have⟨b,off,he,hrj⟩:=HOT.ints.at JK;simp only[Pi,gl,gi]at he;obtain⟨rfl,rfl⟩:=he;rw[fs]at hrj;have⟨b,off,he,hpj⟩:=NA.ints.at JK;simp only[Pi,gl,gi]at he;obtain⟨rfl,rfl⟩:=he;rw[fs]at hpj;have⟨rj,Vs⟩:=j7 (r[j]?.getD 0);have⟨pj,MF⟩:=j7 (p[j]?.getD 0);rw[<-Vs]at hrj;rw[<-MF]at hpj;have GY:=iN d O;have Gm:=jm (B:=32768) (x:=rj) (y:=pc) (l8 (Lc.2 j)) (l8 (Lc.2 j)) wz wz;have F0:=jm (B:=32768) (x:=pj) (y:=rc) (l8 (RV.2 j)) (l8 (RV.2 j)) QI QI;have Jl:=dc (rj*pc);have hw2:=dc (pj*rc);have Gn:=dc (rj*pc-pj*rc);have HV:=I (show rj*pc-pj*rc=r[j]?.getD 0*p[c]?.getD 0-r[c]?.getD 0*p[j]?.getD 0 by rw[<-Vs,<-MF,<-Rj.o,<-SQ.o,vT pj rc]);have HLJ:=I (show((FK c p r).take j).length=j by rw[jt,fI,Lc.1];omega);clear Vs MF Gm F0 GY;have r7:D4 H wr.drew:=aa.trans (D4.drew wr);have hkA:D4 H (wr.alloc (SH #[.int .i64 (rj*pc-pj*rc)] 3)).drew:=(aa.trans ZL).trans fl;have r8:=I λw' (h:D4 H w')=>TX (h.o9 hct) (TX (h.o9 hrj) (TX (h.o9 TT) (TX (h.o9 hpj) h)));go_wp2_with rfl
      go_region_held3 (λw'=>w'.cell? ⟨G,t,none⟩=some (FB (some ⟨gt,0,none⟩) n ct)/\w'.cell? ⟨gt,j,none⟩=some (.int .i64 rj)/\w'.cell? ⟨gp,c,none⟩=some (.int .i64 pc)/\w'.cell? ⟨gp,j,none⟩=some (.int .i64 pj)/\D4 H w')
       (first
         | with_reducible exact r8.o _ r7
         | with_reducible exact r8.o _ hkA)
       (first
         | (refine bU _ l7 ?_
            refine aO _ _ l7 H (FB a1 n1 p1) _ l7 ((Gh.ext (D4.alloc wr _)).ext fl) _ 1 _ [rj*pc-pj*rc] l7 ((d6.JH wr _ _ _ rfl).ext fl) xv t8 ?_;intro v5 w5 ho hg r';obtain⟨a5,n5,p5,rfl,JU⟩:=ho.var;have Fj:=I ho;have r7:D4 H w5:=aj hkA hg (λj hj=>(Gh.lt j hj).1);clear ho hg r'))
      have HK5:=I r7;clear r7;go_wp2_with rfl;refine sq ?_;exact⟨j+1,a5,n5,p5,I (l8 HJ.o),by go_num,rfl,I (by rw[<-Ys tg,<-HV.o];exact Fj),HK5⟩
     have SD:j=n:=l8 HJ.o;subst SD;have HPUT:=I (M3.put aa.o (bR hb Io.size) Gh.o htN);have HVT:=I (show(vs1.set t (FB a1 n1 p1))[d]?.getD undef=FB (some ⟨gp,0,none⟩) j cp by rw[pk O];exact HV3)
     have HMX:=I (show(II FK c M1 d t).set t ((FK c p r).take j)=II FK c M1 d (t+1)by
      rw[aP (by rw[fI,Lc.1];exact m9 _),GV.o,KT.o]
      exact pf _ _ _ _ _ hdt (by rw[N1.o];exact htN))
     have WE:=I ((Io.trans (lx aa.o (bR hb Io.size))).setCell (p:=⟨G,t,none⟩) ams.o (FB a1 n1 p1));have hct4:=aa.o9 hct;have hft4:wr.frozen? ⟨G,t,none⟩=false:=(aa.Fl _ _ hGl3).trans hft;go_wp2
     go_roundg (g3-1)
     case measure=>have:=HK.o;omega
     exact⟨t+1,_,I (l8 HK.o),by go_num,I O,I (by rw[<-HMX.o];exact HPUT),WE,HVT⟩
    have Zc:t=N:=l8 HK.o;subst Zc;go_wp2_with rfl;have HK:=HK3;refine gy ?_;exact⟨c+1,d+1,vs1,_,I (l8 HK3.o),by go_num,by go_num,Qb,M3,Io⟩
  have Qb:=I (show WF FK M (c+1)=(K,d)by
   show JM FK c (WF FK M c)=_;rw[HR.o];unfold JM;simp only;rw[<-HP.o,Hk.o,f8 UP])
  have hkN':k=N:=O;subst hkN';go_wp2_with rfl;have HK:=HK3;refine gy ?_;exact⟨c+1,d,vs,K,I (l8 HK3.o),by go_num,rfl,Qb,HM,HB⟩
 have Oi:c=n:=l8 HK3.o;subst Oi;go_wp2;go_ret;exact⟨au (by rw[HR.o]),HB⟩
theorem E8.Ft(w:J)(base n:Nat)(G:n=w.heap.size)(hb:base<=w.heap.size):E8 (w.alloc (SH #[] 29)) base (GT n 0 0) []:=by
 subst G;exact nr w #[] 0 hb O rfl
def SO(h:σ:=by
 (try unfold f9);go_in
 go_wp2_with rfl;refine HW.mono ?_;rintro e w1 ⟨rfl,rfl⟩;go_wp2;go_ret;exact⟨qq0 HN.symm,So⟩
 ):σ:=h
def MA(h:σ:=by
 exact⟨0,_,_,_,[],I O,rfl,rfl,HO,I (bG.nil _ _),I ZL⟩
 ):σ:=h
theorem Xv{n:Int}{m cap:Nat}(h:d6 w a m cap l)(hl:∀k:Nat,l[k]?.getD 0<=9223372036854775807)(hm:m<=1048576):
 f9 263 #[U n,FB a m cap] w (U (kz n l)):=by
 have⟨ZG,ZH⟩:=h.ath;refine Fn h.hlen h hl λHL HI Hj=>?_;cases Z:A8 n 1 5
 ·have HN:=I (show kz n l=0 by unfold kz;rw[Z];rfl);have HW:=I (bj n 1 5 w);rw[Z]at HW;have qq0:=@au;exact SO
 obtain⟨G,rfl⟩:∃k:Nat,n=k:=⟨n.toNat,by simp only[A8,cM,cq]at Z;omega⟩;have h15:1<=G/\G<=5:=by simp only[A8,cM,cq]at Z;omega
 obtain⟨h1,h5⟩:=h15;have HN:=I (show kz (G:Int) l=((WF FK (l.map (I9 G)) G).2:Int)by unfold kz;rw[i7 Z];rfl);have HW:=I (bj G 1 5 w);rw[Z]at HW;have HO:=I (E8.Ft w w _ rfl (m9 _));unfold f9;go_in
 go_wp2_with rfl;refine HW.mono ?_;rintro e w1 ⟨rfl,rfl⟩;go_wp2
 go_loopg [5,6] m (λgk out i wr=>∃(k:Nat) (a1:o6) (K p1:Nat) (vs:List atY),e9 (gk+k=m)/\i=U k/\out=FB a1 K p1/\e9 (E8 wr w (FB a1 K p1) vs)/\e9 (bG wr w vs ((l.take k).map (I9 G)))/\e9 (D4 w wr))
 ·exact MA
 rename Nat=>g1;rename J=>A1;obtain⟨k,a1,K,p1,vs,HK,rfl,rfl,HV,HR,HX⟩:=hrel;have hsz:=HX.size;by_cases hlt:k<m
 ·have⟨b,off,ha,ME⟩:=(HI.ext HX).at hlt;subst ha;have⟨s,hs⟩:=j7 (l[k]?.getD 0);rw[<-hs]at ME;have HS:=I hs;have KD:s<=9223372036854775807:=by rw[hs];exact Hj.o k
  have HO1:=I (y9.Ft A1 A1 _ rfl (m9 _));have NC:=I (show Lp vs=k by rw[HR.len,b7,jt];have:=HL.o;omega);clear hs;go_wp2
  go_loopg [7,8] G (λgk row i wr=>∃(j:Nat) (a2:o6) (n2 p2:Nat),e9 (gk+j=G)/\i=U j/\row=FB a2 n2 p2/\e9 (y9 wr A1 (FB a2 n2 p2) (I9 j s))/\e9 (D4 A1 wr))
  ·exact I1
  obtain⟨j,a2,n2,p2,HJ,rfl,rfl,C8,H⟩:=hrel;have MC:=H.size;by_cases JK:j<G
  ·have LR:=H.o9 ME;have HLJ:=I (mW j s)
   go_wp2_with (first
    | (go_at_call 173;refine cR (bE s (j:Int) _ KD) ?_)
    | (go_at_call 249;refine cR (fN (Ia s (j:Int)) _) ?_)
    | (at_builtin;refine Wp (Fv (Ia s (j:Int))) C8 H xv λa5 n5 p5 w5 JU X5 Fj=>?_))
   refine sq ?_;exact⟨j+1,a5,n5,p5,I (l8 HJ.o),by go_num,rfl,I (by rw[<-uT];exact Fj),X5⟩
  have SD:j=G:=l8 HJ.o;subst SD
  go_wp2_with (first
   | (at_builtin;refine fd rfl _ _ rfl w (FB a1 K p1) vs rfl ((HV.ext H).ext ZL) _ _ 1 rfl E5 rfl (l8 NC.o) t8 ?_;intro v6 w6 ho hg r';obtain⟨a6,n6,p6,rfl,Jy⟩:=ho.var;have Gp:=I ho;have Ri:=I (((HR.snoc H.o C8.o hsz).ext ZL).IA ((HV.ext H).ext ZL) hg);have X6:=I (aj ((HX.trans H).trans ZL) hg (λj hj=>(HV.lt j hj).1))))
  refine gy ?_;exact⟨k+1,a6,n6,p6,_,I (l8 HK.o),by go_num,rfl,Gp,I WD,X6⟩
 have JS:k=m:=l8 HK.o;subst JS;have HT:e9 (l.take k=l):=aP hI;have La:=I (show K=k by rw[<-HV.len,HR.len,HT.o,b7,HL.o]);have HM:e9 (JP A1 w a1 K p1 vs (l.map (I9 G))):=I ⟨HV,by have:=HR.o;rw[HT.o]at this;exact this⟩;have HC:=I (ER HM.o (mY G l) h1 h5 (by rw[La.o];exact hm) hsz);go_wp2_with rfl;refine i6 HC λw2 hb=>?_;have HB:=I (HX.Sh hb);go_wp2;go_ret;exact⟨au HN.symm,HB⟩
theorem Fa(k:Int)(m:Nat):Fx k m++[k+(m:Int)]=Fx k (m+1):=by simp[Fx,mr]
def K0(h:σ:=by
 subst FA;go_wp2;go_ret;exact⟨⟨_,rfl,HR⟩,IX⟩
 ):σ:=h
theorem kY(lo hi:Int)(n:Nat)(h0:0<=lo)(h1:lo<=1000)(hn:hi+1-lo=n)(hb:n<=1000):
 Calls prog 202 #[U lo,U hi] w λe w'=>(∃v,e=atn v/\y9 w' w v (Fx lo n))/\D4 w w':=by
 have HN:=I hn;have H:hi=lo+(n:Int)-1:=O;have hh1:-1<=hi:=O;have hh2:hi<=2000:=O;have HH:=I H;have HO:=I (y9.Ft w w _ rfl (m9 _));clear hn H;go_in
 go_wp2
 go_loopg [5,6] n (λgk oo ii wr=>∃(k:Nat) (i:Int) (a1:o6) (Z K:Nat),e9 (gk+k=n)/\e9 (i=lo+(k:Int))/\ii=U i/\oo=FB a1 Z K/\e9 (y9 wr w (FB a1 Z K) (Fx lo k))/\e9 (D4 w wr))
 ·exact⟨0,lo,_,_,_,I O,I O,rfl,rfl,HO,I ZL⟩
 obtain⟨k,i,a1,Z,K,HK,G,rfl,rfl,HR,IX⟩:=hrel;have hsz:=IX.size;have hi0:0<=i:=l8 G.o;have hi1:i<=2001:=by have:=G.o;have:=HK.o;omega
 by_cases hlt:k<n
 ·have hle:i<=hi:=by have:=G.o;have:=HH.o;omega
  have HL:=I (zg lo k)
  go_wp2_with (first
   | (at_builtin;refine Wp i HR IX eo λa5 n5 p5 w5 JU X5 Fj=>?_))
  refine dk ?_;exact⟨k+1,i+1,a5,n5,p5,I (l8 HK.o),I (l8 G.o),rfl,rfl,I (by have:=Fj.o;rw[G.o,Fa]at this;exact this),X5⟩
 have FA:k=n:=l8 HK.o;have hnle:¬i<=hi:=by have:=G.o;have:=HH.o;omega
 exact K0
theorem XI(n:Nat)(x:Int){k:Nat}(h:k<n):(List.replicate k x++List.replicate (n-k) 0).set k x=List.replicate (k+1) x++List.replicate (n-(k+1)) 0:=by
 rw[O' _ _ j9];simp only[yl,R8];obtain⟨d,G⟩:∃d,n-k=d+1:=⟨n-k-1,by omega⟩;rw[G,VN,Zq,show n-(k+1)=d by omega,WR,vl];rfl
def S7(h:σ:=by
 go_wp2_with rfl;refine dk ?_;exact⟨k+1,I (l8 HK.o),by go_num,HT,X2⟩
 ):σ:=h
theorem gD(n:Nat)(x:Int)(hb:n<=8000000):
 Calls prog 203 #[U n,U x] w λe w'=>(∃v,e=atn v/\y9 w' w v (List.replicate n x))/\D4 w w':=by
 have hmk:=jk n O;have HR:e9 (kg (w.alloc (SH (bF (List.replicate n 0)) 3)) w 3 (List.replicate n 0)):=nE _ _;go_in
 go_wp2
 go_loopg [11] n (λgk ii wr=>∃k:Nat,e9 (gk+k=n)/\ii=U k/\e9 (kg wr w 3 (List.replicate k x++List.replicate (n-k) 0))/\e9 (D4 w wr))
 ·exact⟨0,I O,rfl,I (by simpa using HR.o),I ZL⟩
 obtain⟨k,HK,rfl,G,Z⟩:=hrel;by_cases H:k<n
 ·have hc:=G.cell (k:=k) t8;have hf:=G.free k;have HT:=I (show kg (wr.setCell (IM w k) (U x)) w 3 (List.replicate (k+1) x++List.replicate (n-(k+1)) 0)by rw[<-XI n x H];exact G.set k x);have X2:=I (Z.setCell (p:=(IM w k)) (m9 _) (U x));exact S7
 have E':k=n:=l8 HK.o;subst E';have K:=I (show kg wr w 3 (List.replicate k x)by have:=G.o;simpa using this);go_wp2;go_ret;exact⟨⟨_,rfl,K.own (m9 _) j9 O⟩,Z⟩
def D8(l:o7)(k:Nat):o7:=l.map λs=>Fv (Ia s (k:Int))
def Gk(n:Nat)(l:o7):o4:=(List.range n).map (D8 l)
theorem vw(k:Nat)(l:o7):Gk k l++[D8 l k]=Gk (k+1) l:=by simp[Gk,mr]
theorem lW{j k:Nat}{b:Bool}(h:j<Lp l)(hb:Ia (l[j]?.getD 0) (k:Int)=b):D8 (l.take j) k++[Fv b]=D8 (l.take (j+1)) k:=by
 rw[cD h,<-hb];simp[D8]
def UB(h:σ:=by
 refine sq ?_;exact⟨j+1,a5,n5,p5,I (l8 HJ.o),by go_num,rfl,I (by rw[<-HDS.o];exact Fj),X5⟩
 ):σ:=h
theorem lR(n:Nat)(hn:n<=5){m cap:Nat}(h:d6 w a m cap l)(hl:∀k:Nat,l[k]?.getD 0<=9223372036854775807)(hm:m<=8000000):
 Calls prog 201 #[U n,FB a m cap] w λe w'=>(∃v,e=atn v/\bZ w' w v (Gk n l))/\D4 w w':=by
 have⟨ZG,ZH⟩:=h.ath;refine Op h.hlen h hl (E8.Ft w w _ rfl (m9 _)) λHL HI Hj HO=>?_;go_in
 go_wp2
 go_loopg [5,13] n (λgk out ii wr=>∃(k:Nat) (Z:o6) (K H:Nat) (vs:List atY),e9 (gk+k=n)/\ii=U k/\out=FB Z K H/\e9 (E8 wr w (FB Z K H) vs)/\e9 (bG wr w vs (Gk k l))/\e9 (D4 w wr))
 ·exact MA
 rename Nat=>g1;rename J=>A1;obtain⟨k,Z,K,H,vs,HK,rfl,rfl,HV,HR,HX⟩:=hrel;have hsz:=HX.size;by_cases hlt:k<n
 ·have HO1:=I (y9.Ft A1 A1 _ rfl (m9 _));have NC:=I (show Lp vs=k by rw[HR.len];simp[Gk]);go_wp2
  go_loopg [7,19] m (λgk row ii wr=>∃(j:Nat) (a2:o6) (n2 p2:Nat),e9 (gk+j=m)/\ii=U j/\row=FB a2 n2 p2/\e9 (y9 wr A1 (FB a2 n2 p2) (D8 (l.take j) k))/\e9 (D4 A1 wr))
  ·exact I1
  obtain⟨j,a2,n2,p2,HJ,rfl,rfl,C8,G⟩:=hrel;have MC:=G.size;by_cases JK:j<m
  ·have⟨b,off,ha,ME⟩:=(HI.ext (HX.trans G)).at JK;subst ha;have⟨s,hs⟩:=j7 (l[j]?.getD 0);rw[<-hs]at ME;have KD:s<=9223372036854775807:=by rw[hs];exact Hj.o j
   have HLJ:=I (show(D8 (l.take j) k).length=j by simp[D8];have:=HL.o;omega);have Uu:=I (il s (k:Int) wr KD);cases Wj:Ia s (k:Int)
   case' true =>
    rw[Wj]at Uu;have HDS:e9 (D8 (l.take j) k++[(1:Int)]=D8 (l.take (j+1)) k):=lW (l:=l) (j:=j) (k:=k) (b:=true) (l8 HL.o) (by rw[hs]at Wj;exact Wj)
   case' false =>
    rw[Wj]at Uu;have HDS:e9 (D8 (l.take j) k++[(0:Int)]=D8 (l.take (j+1)) k):=lW (l:=l) (j:=j) (k:=k) (b:=false) (l8 HL.o) (by rw[hs]at Wj;exact Wj)
   all_goals
    clear hs;go_wp2_with rfl;refine cR Uu ?_
   ·go_wp2_with (first
     | (at_builtin;refine Wp _ C8 G xv λa5 n5 p5 w5 JU X5 Fj=>?_))
    exact UB
   go_wp2_with (first
    | (at_builtin;refine Wp _ C8 G xv λa5 n5 p5 w5 JU X5 Fj=>?_))
   exact UB
  have Nh:j=m:=l8 HJ.o;subst Nh;have HT:e9 (l.take j=l):=aP hI;rw[HT.o]at C8
  go_wp2_with (first
   | (at_builtin;refine fd rfl _ _ rfl w (FB Z K H) vs rfl ((HV.ext G).ext ZL) _ _ 1 rfl E5 rfl (l8 NC.o) t8 ?_;intro v6 w6 ho hg r';obtain⟨a6,n6,p6,rfl,Jy⟩:=ho.var;have Gp:=I ho;have Ri:=I (((HR.snoc G.o C8.o hsz).ext ZL).IA ((HV.ext G).ext ZL) hg);have X6:=I (aj ((HX.trans G).trans ZL) hg (λj hj=>(HV.lt j hj).1))))
  refine gy ?_;exact⟨k+1,a6,n6,p6,_,I (l8 HK.o),by go_num,rfl,Gp,I (by rw[<-vw];exact Ri),X6⟩
 have E':k=n:=l8 HK.o;subst E';go_wp2;go_ret;exact⟨⟨_,rfl,vs,HV,HR⟩,HX⟩
end
section
def dQ(q n:Nat):o4:=Gk q (Fx 1 (n-1))
def ed(q:Nat):o7:=List.replicate q 1
def aY(V:o7):o3:=(V.drop 1).map λv=>(-v,1)
def Dl{p:Int}{V:o7}(h:ak p V=true)(A:o4)(B:o7):bH az A B (aY V)=fh A B (aY V):=by
 obtain⟨q,rfl,_,_,_,_,hb⟩:=ap h;refine kD λ_ j G=>uf ⟨-((V.drop 1)[j]?.getD 0),?_,?_⟩
 ·unfold aY at G⊢;rw[b7]at G;rw[sr,In G];rfl
 unfold aY at G;rw[b7]at G;rw[In G,NE];have:=hb _ (List.mem_of_mem_drop (cP G));omega
def eO(g:Int)(r:I'):(Int×Int)×Bool:=F6 (g,1) r.value
def Rr(r:I'):o3:=r.Y.map D2
def ko(g:Int)(r:I'):(Int×Int)×Bool:=F6 ((Rr r)[Lp (Rr r)-1]?.getD (0,0)) (eO g r).1
def V4(g:Int)(r:I'):o3:=(Rr r).set (Lp (Rr r)-1) (ko g r).1
def Fb{a x b c:Int}(hb:0<b)(hc:0<c)(h:a*c=x*b):a<0↔x<0:=by
 constructor
 ·intro H;rcases L3 x 0 with G|G
  ·exact G
  have Q:=Int.mul_neg_of_neg_of_pos H hc;have K:=ct G (Int.le_of_lt hb);omega
 intro hx;rcases L3 a 0 with G|G
 ·exact G
 have Q:=Int.mul_neg_of_neg_of_pos hx hb;have K:=ct G (Int.le_of_lt hc);omega
def CR{g:Int}{r:I'}(h:(eO g r).2=true):0<D' (D2 r.value) (g,1)↔(eO g r).1.1<0:=by
 unfold eO at h⊢;obtain⟨Q,G,h3,_⟩:=pV h;have hb:=aV G;have hs:=aV h3;have Z:A5 (D2 r.value)=true:=by rw[ew];exact G
 have he:F6 (g,1) r.value=aN (g*r.value.2+r.value.1*1) (1*r.value.2):=by unfold F6;rw[Q,G];rfl
 rw[he]at h hs⊢;have hf:=(nK O h);have hc:D' (D2 r.value) (g,1)=if -r.value.1*1<g*r.value.2 then -1 else if g*r.value.2 < -r.value.1*1 then 1 else 0:=by unfold D';rw[Z,Q];rfl
 rw[hc];have LQ:=Fb (a:=(aN (g*r.value.2+r.value.1*1) (1*r.value.2)).1.1) (x:=g*r.value.2+r.value.1*1) (b:=(aN (g*r.value.2+r.value.1*1) (1*r.value.2)).1.2) (c:=r.value.2) O O (by have:=hf.2.2;rw[Int.one_mul]at this;simpa using this);rw[LQ];by_cases K:-r.value.1*1<g*r.value.2
 ·rw[i7 K];omega
 rw[f8 K];by_cases H:g*r.value.2 < -r.value.1*1
 ·rw[i7 H];omega
 rw[f8 H];omega
def R9(h:σ:=by
 (try unfold f9);go_in
 go_wp2;refine GE (by simp[results,qq0,go_sem]<;>rfl) rfl ⟨rfl,?_⟩;exact ZL.trans ZL
 ):σ:=h
def fc(x y:Int)(w:J)(h0:-9223372036854775807<=x)(h1:x<=9223372036854775807):
 f9 126 #[Ge x y] w (Ge (-x) y):=by
 have qq0:=@Tryz.results126;exact R9
def eZ(x y:Int)(w:J)(h0:-9223372036854775807<=x)(h1:x<=9223372036854775807):
 f9 180 #[Ge x y] w (Ge (-x) y):=by
 have qq0:=@Tryz.results180;exact R9
end
section
variable{w w' w1 w2:J}{ra ba a:o6}{rn rc bn bc base' base g n m:Nat}{t:Tb}{x y z vb va:atY}{r cost costs:o3}{vs:List atY}{fid:FuncId}
structure QW(w:J)(ra:o6)(rn rc:Nat)(ba:o6)(bn bc:Nat)(t:Tb):Prop where
 rows:jx w ra rn rc t.rows
 basis:d6 w ba bn bc t.basis
theorem QW.ext(h:QW w ra rn rc ba bn bc t)(hx:D4 w w'):QW w' ra rn rc ba bn bc t:=⟨h.rows.ext hx,h.basis.ext hx⟩
abbrev Qk(ra:o6)(rn rc:Nat)(ba:o6)(bn bc:Nat)(x:Int):atY:=.agg #[FB ra rn rc,FB ba bn bc,.int .i64 x]
abbrev dh(ra:o6)(rn rc:Nat)(ba:o6)(bn bc:Nat)(x:Int):Obj:=SH #[FB ra rn rc,FB ba bn bc,.int .i64 x] 216
structure Lr(w:J)(base g:Nat)(va vb:atY)(x:Int)(vs:List atY)(M:List (o3))(l:o7):Prop where
 box:w.heap[g]?=some (SH #[va,vb,U x] 216 (0,0))
 hg:base<=g
 a:Ir w base va vs
 rows:ez w base vs M
 b:y9 w base vb l
section
variable{w:J}{base g:Nat}{va vb:atY}{x:Int}{vs:List atY}{M:List (o3)}{l:o7}
theorem Lr.lt(h:Lr w base g va vb x vs M l):g<w.heap.size:=IO h.box
theorem Lr.ext{w':J}(h:Lr w base g va vb x vs M l)(hx:D4 w w'):Lr w' base g va vb x vs M l :=
 ⟨(hx.block _ h.lt).trans h.box,h.hg,h.a.ext hx,h.rows.ext hx,h.b.ext hx⟩
theorem aw{x y z:atY}{t:TypeId}(h:w.heap[g]?=some (SH #[x,y,z] t (0,0))):w.cell? (IM g 0)=some x:=by rw[UV w g 0 _ _ _ h];rfl
theorem aJ{x y z:atY}{t:TypeId}(h:w.heap[g]?=some (SH #[x,y,z] t (0,0))):w.cell? (IM g 1)=some y:=by rw[UV w g 1 _ _ _ h];rfl
theorem aK{x y z:atY}{t:TypeId}(h:w.heap[g]?=some (SH #[x,y,z] t (0,0))):w.cell? (IM g 2)=some z:=by rw[UV w g 2 _ _ _ h];rfl
theorem mc{w:J}{g:Nat}{x y z:atY}{t:TypeId}(h:w.heap[g]?=some (.cells #[x,y,z] t (0,0))):w.cell? ⟨g,0,none⟩=some x/\w.cell? ⟨g,1,none⟩=some y/\w.cell? ⟨g,2,none⟩=some z:=⟨aw h,aJ h,aK h⟩
theorem ee{x y z:atY}{t:TypeId}(h:w.heap[g]?=some (SH #[x,y,z] t (0,0)))(k:Nat):w.frozen? (IM g k)=false:=fy w g k _ _ h
theorem Lr.M8{w1 w2:J}(h:Lr w base g va vb x vs M l)(hx:D4 w w1){H QC:atY}{r:o3}(hr:ZM w1 w H r)(Wm:base<=w.heap.size)(K:w1.grownBy w2 va.ownBlock)(ho:Ir w2 base QC (vs++[H])):
 Lr (w2.setCell (IM g 0) QC) base g QC vb x (vs++[H]) (M++[r]) l:=by
 have G:=h.ext hx;have GB:w2.heap[g]?=some (SH #[va,vb,U x] 216 (0,0)):=(K.block g G.lt (aq G.a G.box FS)).trans G.box;have GX:∀k,k≠g->(w2.setCell (IM g 0) QC).heap[k]?=w2.heap[k]?:=λk hk=>If _ _ _ _ hk
 have RF:y9 w2 base vb l:=G.b.keep λk hk=>K.block k (G.b.lt k hk).2 λe=>aD FS G.b G.a k hk e.symm
 have ZO:ez w1 base (vs++[H]) (M++[r]):=h.rows.snoc hx hr Wm;have SJ:ez w2 base (vs++[H]) (M++[r]):=ZO.keep λi k hi hk=>K.block k ((ZO.row i hi).lt k hk).2 λe=>(ZO.row i hi).apart G.a k hk e.symm
 refine⟨?_,h.hg,?_,?_,?_⟩
 ·have:=aM w2 g 0 _ _ QC GB;exact this
 ·exact PG
 ·exact tq
 exact Yx
theorem Lr.QU{w1 w2:J}(h:Lr w base g va vb x vs M l)(hx:D4 w w1)(hg:w1.grownBy w2 va.ownBlock):w2.heap[g]?=some (SH #[va,vb,U x] 216 (0,0)) :=
 (hg.block g (h.ext hx).lt (aq (h.ext hx).a (h.ext hx).box FS)).trans (h.ext hx).box
theorem Lr.QT{w1 w2:J}(h:Lr w base g va vb x vs M l)(hx:D4 w w1)(hg:w1.grownBy w2 vb.ownBlock):w2.heap[g]?=some (SH #[va,vb,U x] 216 (0,0)) :=
 (hg.block g (h.ext hx).lt (aq (h.ext hx).b (h.ext hx).box FS)).trans (h.ext hx).box
theorem Lr.pushB{w1 w2:J}(h:Lr w base g va vb x vs M l)(hx:D4 w w1){Vi:atY}{K:o7}(H:w1.grownBy w2 vb.ownBlock)(ho:y9 w2 base Vi K):
 Lr (w2.setCell (IM g 1) Vi) base g va Vi x vs M K:=by
 have G:=h.ext hx;have GB:=h.QT hx H;have GX:∀k,k≠g->(w2.setCell (IM g 1) Vi).heap[k]?=w2.heap[k]?:=λk hk=>If _ _ _ _ hk
 have hA2:Ir w2 base va vs:=G.a.keep λk hk=>H.block k (G.a.lt k hk).2 λe=>aD FS G.a G.b k hk e.symm
 have SJ:ez w2 base vs M:=G.rows.keep λi k hi hk=>H.block k ((G.rows.row i hi).lt k hk).2 λe=>aD FS (G.rows.row i hi) G.b k hk e.symm
 refine⟨?_,h.hg,?_,?_,?_⟩
 ·have:=aM w2 g 1 _ _ Vi GB;exact this
 ·exact yv
 ·exact tq
 exact PG
theorem Lr.new{G:J}{vb:atY}{base':Nat}(hb:y9 G base' vb l)(R4:base<=base')(hs:base<=G.heap.size):
 Lr (G.alloc (SH #[d9,vb,U x] 216)) base G d9 vb x [] [] l :=
 ⟨nE _ _,hs,T9 _ base _ 1,ez.nil _ _,(hb.mono R4).ext ZL⟩
theorem Lr.ach{H:J}{vb v0 v1 v2:atY}{base':Nat}(K:H.heap[g]?=some (SH #[v0,v1,v2] 216 (0,0)))(hb:y9 H base' vb l)(R4:base<=base')(hs:base<=g):
 Lr (((H.setCell (IM g 0) d9).setCell (IM g 1) vb).setCell (IM g 2) (U x)) base g d9 vb x [] [] l:=by
 have e1:=aM H g 0 _ _ d9 K;have Z:=aM _ g 1 _ _ vb e1;have Q:=aM _ g 2 _ _ (U x) Z;refine⟨Q,hs,T9 _ base _ 1,ez.nil _ _,?_⟩;refine(hb.mono R4).keep λk hk=>?_;have G:k≠g:=λe=>(aq hb K FS) N3;rw[If _ _ _ _ G,If _ _ _ _ G,If _ _ _ _ G]
end
structure GR(w:J)(base:Nat)(va vb:atY)(vs:List atY)(t:Tb):Prop where
 a:Ir w base va vs
 rows:ez w base vs t.rows
 b:y9 w base vb t.basis
theorem GR.ext(h:GR w base va vb vs t)(hx:D4 w w'):GR w' base va vb vs t:=⟨h.a.ext hx,h.rows.ext hx,h.b.ext hx⟩
theorem GR.mono(h:GR w base va vb vs t)(hb:base'<=base):GR w base' va vb vs t :=
 ⟨by
  refine⟨h.a.1,?_⟩
  rcases h.a.2 with G|⟨g,cap,cur,rfl,H,rest⟩
  ·exact .inl G
  exact .inr ⟨g,cap,cur,rfl,bR hb H,rest⟩,⟨h.rows.len,λi hi=>(h.rows.row i hi).mono hb,h.rows.apart⟩,h.b.mono hb⟩
theorem GR.Ku(h:GR w base (FB ra rn rc) (FB ba bn bc) vs t):QW w ra rn rc ba bn bc t :=
 ⟨rW.aiZ ⟨vs,h.a,h.rows⟩,h.b.ints⟩
theorem GR.Hd(h:GR w base va vb vs t)(G:∀k,base<=k->w'.heap[k]?=w.heap[k]?):GR w' base va vb vs t :=
 ⟨h.a.keep λk e=>G k (h.a.lt k e).1,h.rows.keep λi k hi e=>G k ((h.rows.row i hi).lt k e).1,h.b.keep λk e=>G k (h.b.lt k e).1⟩
theorem dW(w:J)(b k:Nat)(x y z:atY)(h:k≠b):(((w.setCell (IM b 0) x).setCell (IM b 1) y).setCell (IM b 2) z).heap[k]?=w.heap[k]?:=by
 rw[If _ _ _ _ h,If _ _ _ _ h,If _ _ _ _ h]
theorem Lr.own{x:Int}{M:List (o3)}{l:o7}(h:Lr w base g va vb x vs M l):GR w base va vb vs ⟨M,l,x⟩:=⟨h.a,h.rows,h.b⟩
theorem D4.Kf(h:D4 w w'){b:Nat}(hb:w.heap.size<=b)(x y z:atY):D4 w (((w'.setCell (IM b 0) x).setCell (IM b 1) y).setCell (IM b 2) z):=((h.setCell (p:=(IM b 0)) hb _).setCell (p:=(IM b 1)) hb _).setCell (p:=(IM b 2)) hb _
theorem mS{cap:Nat}{l:o3}(h:i8 w a n cap l)(hb:n<=1099511627776):
 Calls prog 55 #[FB a n cap] w λe w'=>∃v,e=atn v/\ZM w' w v l/\D4 w w':=by
 have heq:∀w':J,(binOp .eql 32 (FB a n cap) d9).run prog w'=.ok (ato a.isNone) w':=λw'=>Pb w' _ _ a n cap 0 0 K7
 have HL:=I h.hlen;cases a with
 | none =>
   have hl:l=[]:=by
    exact Y8
   have qq0:=@ZM.nil;exact A2
 | some ad =>
   simp only[Tg]at heq;have K:=I (h.ext (D4.alloc w (SH #[] 80)));have H:=I (ZM.made w w (m9 _));go_in
   go_wp2_with (at_builtin;refine cH rfl _ _ rfl w _ _ rfl H.o _ n _ l rfl K.o T4 j9 ?_;intro v' w1 ho hg r');go_ret;exact⟨_,rfl,by simpa using ho,aj ZL hg (λk G=>sw (iv (show some w.heap.size=some k from G)))⟩
def Hw(P:Program)(w:J)(fid:FuncId)(ca:Array atY)(p:o3->Bool):Prop :=
 ∀a n cap r (w1:J),D4 w w1->i8 w1 a n cap r->Calls P fid (#[FB a n cap]++ca) w1 λe w2=>e=atn (ato (p r))/\D4 w1 w2
theorem ut{cap:Nat}{l:List (o3)}{ca:Array atY}{p:o3->Bool}(h:jx w a n cap l)(hg:Rd prog fid)(hf:Hw prog w fid ca p):
 f9 368 #[FB a n cap,.func (.func fid) #[] ca] w (U (di p l)):=by
 have⟨hn,hm⟩:=h.ath;refine Fn h.hlen h hf λHL HI H=>?_;have VD:∀(args:Array atY) (w:J),(callFunc fid args).run prog w=.ok (.enter fid args) w:=hg;unfold f9;go_in
 go_wp2
 go_loopg [8] n (λgk ii wr=>∃k:Nat,e9 (gk+k=n)/\ii=U k/\e9 ((l.take k).all (λx=>!p x)=true)/\e9 (D4 w wr))
 ·exact FC
 obtain⟨k,HK,rfl,K,HX⟩:=hrel;by_cases G:k<n
 ·obtain⟨b,off,ra,rn,rc,rfl,Fo,A4⟩:=(HI.ext HX).at G;have HC:=I (H _ _ _ _ wr HX.o A4);have Hk:=I (show k<Lp l by rw[HL.o];exact G);cases hb:p (l[k]?.getD [])
  all_goals
   rw[hb]at HC
  ·have HT:=I (show(l.take (k+1)).all (λx=>!p x)=true by
    rw[fE Hk.o,p7,K.o];simp only[Zc,UF,hb];rfl)
   exact R3
  have HF:e9 (di p l=k):=fP (d:=[]) Hk.o K.o hb;exact A3
 have HT:=I (show di p l=-1 by
  have Z:=K.o;rw[aP eo]at Z;exact eF Z)
 go_wp2;go_ret;exact⟨au HT.symm,HX⟩
theorem pZ{cap:Nat}{l:List (o3)}{ca:Array atY}{p:o3->Bool}(h:jx w a n cap l)(hg:Rd prog fid)(G:Hw prog w fid ca p):
 f9 357 #[FB a n cap,.func (.func fid) #[] ca] w (ato (l.any p)):=by
 have HC:=I (ut h hg G);exact Uo
theorem DH(z:Int){h:Nat}{x:Int}(hx:0<=x/\x<=1000)(hm:m<=1048576)(h1:w.cell? (IM g 2)=some (U x))(h2:w.cell? (IM h 0)=some (U m)):
 f9 356 #[U z,ats (some (IM g 0)),ats (some (IM h 0))] w (ato (!A8 z 0 (x+(m:Int)-1))):=by
 obtain⟨B9,B0⟩:=hx;unfold f9;go_in
 go_wp2_with (go_at_call 82;refine cR ns ?_);go_ret;exact⟨rfl,So⟩
theorem BG:Rd prog 356:=cE func356 k8 k8
theorem DI{cap:Nat}(hr:i8 w a n cap r){h:Nat}{x:Int}(hx:0<=x/\x<=1000)(hm:m<=1048576)(h1:w.cell? (IM g 2)=some (U x))(h2:w.cell? (IM h 0)=some (U m)):
 f9 358 #[FB a n cap,ats (some (IM g 0)),ats (some (IM h 0))] w (ato (!decide ((Lp r:Int)=x+(m:Int)+1))):=by
 obtain⟨B9,B0⟩:=hx;have⟨hc,hm⟩:=hr.ath;have G:=I hr.hlen;unfold f9;go_in
 go_wp2;go_ret;refine⟨ag ?_,So⟩;rw[G.o];by_cases e:(n:Int)=x+(m:Int)+1
 ·rw[bl e];simpa using e
 rw[RK e];simpa using e
theorem BH:Rd prog 358:=cE func358 k8 k8
theorem F2{α:Type}(l:List α)(p:α->Bool):(!l.any λx=>!p x)=l.all p:=by rw[Y4];simp
theorem Ai{α:Type}(l:List α)(p:α->Bool):(l.any λx=>!p x)=!l.all p:=by rw[<-F2,UP]
section
variable{w:J}{ra:o6}{rn rc:Nat}{ba:o6}{bn bc:Nat}{t:Tb}
def rj(h:σ:=by
 have X1:=I (B4.trans hx);clear hx;go_wp2;go_ret;exact⟨qq0 HN.symm,X1⟩
 ):σ:=h
theorem ld(h:QW w ra rn rc ba bn bc t)(Kk:rn<=1048576):
 f9 332 #[Qk ra rn rc ba bn bc t.A'] w (ato (JF t)):=by
 obtain⟨rows,basis,x⟩:=t;have B9:=(D4.alloc w (dh ra rn rc ba bn bc x)).trans (D4.alloc _ (SH #[U rn] 3));have B4:=I B9;have H:=I (h.ext B9);have⟨FL,Hs⟩:=h.rows.ath;have⟨Gm,F0⟩:=h.basis.ath;have GS:=I h.rows.hlen;have K:=I (show JF ⟨rows,basis,x⟩=(A8 x 0 1000&&(decide (bn=rn)&&(basis.all (λb=>A8 b 0 (x+(rn:Int)-1))&&rows.all (λr=>decide ((Lp r:Int)=x+(rn:Int)+1)))))by
  unfold JF;simp only;rw[h.rows.hlen,h.basis.hlen])
 show Calls _ _ #[Qk ra rn rc ba bn bc x] w _;have G:=I (λw=>av x 0 1000 w);cases Q:A8 x 0 1000
 ·rw[Q]at G K;go_in
  go_wp2_with rfl;refine(G _).mono ?_;rintro e w1 ⟨rfl,rfl⟩;go_wp2;go_ret;exact⟨ag K.symm,B4⟩
 have S8:0<=x/\x<=1000:=by unfold A8 at Q;simp at Q;exact Q
 have Qv:=I S8;rw[Q]at G K;by_cases Z:bn=rn
 ·subst Z;have GY:((bn:Int) != (bn:Int))=false:=by simp
  have HN:=I (show JF ⟨rows,basis,x⟩=(basis.all (λb=>A8 b 0 (x+(bn:Int)-1))&&rows.all (λr=>decide ((Lp r:Int)=x+(bn:Int)+1)))by rw[K.o,bl rfl];rfl);have RU:=I (dJ (ca:=#[ats (some (IM w 0)),ats (some (IM (w+1) 0))]) H.basis BG (p:=λb=>!A8 b 0 (x+(bn:Int)-1)) (λz w1 hx=>DH z Qv.o Kk (hx.o9 j9) (hx.o9 j9)));rw[Ai]at RU;cases hb:basis.all (λb=>A8 b 0 (x+(bn:Int)-1))
  ·rw[hb]at RU HN;go_in
   go_wp2_with rfl;refine(G _).mono ?_;rintro e w1 ⟨rfl,rfl⟩;go_wp2_with rfl;refine i6 RU λw2 hx=>?_;have qq0:=@ag;exact rj
  rw[hb]at RU HN;go_in
  go_wp2_with rfl;refine(G _).mono ?_;rintro e w1 ⟨rfl,rfl⟩;go_wp2_with rfl;refine i6 RU λw2 hx=>?_;have Lb:=I (pZ (ca:=#[ats (some (IM w 0)),ats (some (IM (w+1) 0))]) (H.ext hx).rows BH (p:=λr=>!decide ((Lp r:Int)=x+(bn:Int)+1)) (λa n cap r w1 C9 hr=>DI hr Qv.o Kk ((hx.trans C9).o9 j9) ((hx.trans C9).o9 j9)));rw[Ai]at Lb;have hq:w2.cell? (IM w 0)=some (FB ra bn rc):=hx.o9 j9;have X1:=I (B4.trans hx);go_wp2_with rfl;refine i6 Lb λw3 hx=>?_;have X3:=I (X1.trans hx);go_wp2;go_ret;exact⟨ag (by rw[HN.o];simp),X3⟩
 have GY:((bn:Int) != (rn:Int))=true:=t8;have HF:=I (show JF ⟨rows,basis,x⟩=false by rw[K.o,RK Z];rfl);go_in
 go_wp2_with rfl;refine(G _).mono ?_;rintro e w1 ⟨rfl,rfl⟩;go_wp2;go_ret;exact⟨ag HF.symm,B4⟩
def ZQ(h:σ:=by
 exact⟨0,_,_,I O,rfl,Pt,Sa⟩
 ):σ:=h
theorem mH(h:QW w ra rn rc ba bn bc t)(Kk:rn<=1048576)(OG:bn<=1048576)(Nf:∀i,i<rn->Lp (t.row i)<=1048576):
 Calls prog 355 #[Qk ra rn rc ba bn bc t.A'] w λe w'=>(∃va vb vs,e=atn (.agg #[va,vb,.int .i64 t.A'])/\GR w' w va vb vs t)/\D4 w w':=by
 obtain⟨rows,basis,x⟩:=t;have B9:=(D4.alloc w (dh ra rn rc ba bn bc x)).trans (D4.alloc _ (SH #[FB none 0 0,FB none 0 0,.int .i64 0] 216));have⟨W,hW⟩:=j7 ((w.alloc (dh ra rn rc ba bn bc x)).alloc (SH #[FB none 0 0,FB none 0 0,.int .i64 0] 216));rw[<-hW]at B9;have B4:=I B9;have H:=I (h.ext B9);have FL:=h.rows.y7;have Hs:=h.rows.y8;have GS:=I h.rows.hlen;have GN:=I Nf;have p0:W.cell? ⟨w,0,none⟩=some (FB ra rn rc):=by rw[hW];simp
 have p1:W.cell? ⟨w,1,none⟩=some (FB ba bn bc):=by rw[hW];simp
 have p2:W.cell? ⟨w,2,none⟩=some (.int .i64 x):=by rw[hW];simp
 have Gj:=I (show W.heap[w.heap.size+1]?=some (SH #[FB none 0 0,FB none 0 0,.int .i64 0] 216 (0,0))by rw[hW];exact LE j9);have J':=I (show W.heap.size=w.heap.size+1+1 by rw[hW];simp);clear h B9 Nf;show Calls _ _ #[Qk ra rn rc ba bn bc x] w _;go_in
 go_upto_region 1 with rfl;rw[<-hW];clear hW
 go_cut [3] (λs wx=>∃(g:Nat) (a3:o6) (K c3:Nat),s=ats (some ⟨g,0,none⟩)/\e9 (Lr wx W g (FB none 0 0) (FB a3 K c3) x [] [] basis)/\e9 (D4 W wx))
 case first =>
  have r7:=D4.drew W;have Fu:D4 W (W.alloc (SH #[FB none 0 0,FB none 0 0,.int .i64 0] 216)).drew:=ZL.trans fl;have r8:=I λw' (h:D4 W w')=>TX (h.o9 p0) (TX (h.o9 p1) (TX (h.o9 p2) h))
  go_region_held3 (λw'=>w'.cell? ⟨w,0,none⟩=some (FB ra rn rc)/\w'.cell? ⟨w,1,none⟩=some (FB ba bn bc)/\w'.cell? ⟨w,2,none⟩=some (.int .i64 x)/\D4 W w')
   (first
     | with_reducible exact r8.o _ r7
     | with_reducible exact r8.o _ Fu
     | with_reducible exact r8.o _ (r7.trans ZL)
     | with_reducible exact r8.o _ (((r7.setCell (m9 _) _).setCell (m9 _) _).setCell (m9 _) _))
   (first
     | ((with_reducible refine(kh (H.o.ext BB).basis O).mono ?_)
        rintro e w3 ⟨v3,rfl,Gw,C0⟩;obtain⟨a3,K,c3,rfl,Nw⟩:=Gw.var
        first|(
           have G:w3.heap[W.heap.size]?=some (SH #[FB none 0 0,FB none 0 0,.int .i64 0] 216 (0,0)):=D4.blk C0 (show(W.alloc (SH #[FB none 0 0,FB none 0 0,.int .i64 0] 216)).drew.heap[W.heap.size]?=_ from nE W _);have Ko:=aw G;have Kn:=aJ G;have b2_:=aK G;have bf_:=ee G;have Mo:=I G;clear G)|skip
        have r7:D4 W w3:=by first|with_reducible exact r7.trans C0|with_reducible exact Fu.trans C0
        have G7:=r7.size))
  all_goals
   go_wp2;go_meet
  ·exact⟨_,a3,K,c3,rfl,I (Lr.new Gw (m9 _) G7),I (r7.trans ZL)⟩
  exact⟨_,a3,K,c3,rfl,I (Lr.ach Mo.o Gw Fu.size (m9 _)),I (((r7.setCell (m9 _) _).setCell (m9 _) _).setCell (m9 _) _)⟩
 obtain⟨g,a3,K,c3,rfl,Pt,Sa⟩:=hcut;replace p0:=Sa.o9 p0;clear p1 p2;go_wp2
 go_loopg [15] rn (λgk ii wr=>∃(k:Nat) (va:atY) (vs:List atY),e9 (gk+k=rn)/\ii=.int .i64 (k:Int)/\e9 (Lr wr W g va (FB a3 K c3) x vs (rows.take k) basis)/\e9 (D4 W wr))
 ·exact ZQ
 obtain⟨k,va,vs,HK,rfl,T,HX⟩:=hrel;clear p0;by_cases hlt:k<rn
 ·have⟨zb,Gd,za,zn,zc,Lf,Hl,A4⟩:=(H.ext HX).rows.at hlt;subst Lf;have Vn:zn<=1048576:=by rw[<-A4.hlen];exact GN.o k hlt
  have Ja:=I A4;have t0:=aw T.box;have LW:=T.lt;have hsx:=HX.size;have HVL:=I (show Lp vs=k by rw[T.rows.len,jt];have h2:Lp rows=rn:=GS.o;omega);clear A4;go_upto_region 5 with rfl
  go_region_law (first
   | (refine bU _ rfl (gh _ _ rfl W va vs rfl ((T.ext Hh).a.ext ZL) _ _ 1 rfl (by first|(simp;done)|(simp;rfl)) rfl (l8 HVL.o) P8 ?_);intro v6 w6 Ll K4 hn6;have Gu:=T.QU (Hh.trans ZL) K4;have c0:=aw Gu;have cf:=ee Gu;obtain⟨a6,n6,c6,rfl,Jy⟩:=Ll.var;have Gp:=I Ll;have HG6:=I K4;clear Ll K4 hn6 Gu)
   | (go_simp;go_at_call 55;refine yf (mS (Ja.ext fl) O) λw5 v5 Of F'=>?_;obtain⟨a5,n5,c5,rfl,JU⟩:=Of.var;have Hh:=I ((D4.drew wr).trans F');have Fj:=I Of;have MD:=Hh.size;have hg5:g<w5.heap.size:=O;replace t0:=Hh.o9 t0;clear Of F'))
  all_goals
   go_wp2_with rfl;have Tq:=I (T.M8 (Hh.trans ZL) (Fj.ext ZL) hsx HG6.o Gp);have Nq:=I ((aj ((HX.trans Hh).trans ZL) HG6.o (λi hi=>(T.a.lt i hi).1)).setCell (p:=⟨g,0,none⟩) T.hg (FB a6 n6 c6));refine dk ?_;exact⟨k+1,_,_,I (l8 HK.o),by go_num,I (by have:=Tq.o;rw[<-fE (by have h2:rows.length=rn:=GS.o;omega)]at this;exact this),Nq⟩
 have E':rn=k:=l8 HK.o;subst E';have Pq:e9 (rows.take rn=rows):=aP (sw GS);have Tq:=I (show Lr wr W g va (FB a3 K c3) x vs rows basis by have:=T.o;rw[Pq.o]at this;exact this);have t0:=aw T.box;have t1:=aJ T.box;have t2:=aK T.box;obtain⟨a7,n7,c7,rfl,Ma⟩:=T.a.var;have q0:=HX.blk Gj.o;have r0:=aw q0;have r1:=aJ q0;have r2:=aK q0;have rf:=ee q0;have hww:=J'.o;have hsx:=HX.size;clear q0;go_wp2;refine GE (v:=.agg #[FB a7 n7 c7,FB a3 K c3,.int .i64 x]) (by simp[results,results355,go_sem,r0,r1,r2,rf]) rfl ⟨⟨_,_,vs,rfl,?_⟩,?_⟩
 ·exact(Tq.own.Hd λk hk=>dW _ _ _ _ _ _ O).mono O
 exact(B4.trans HX).Kf (bq _) _ _ _
end
theorem si{k:Nat}(h:dX t cost k=none):∀{n:Nat},k<=n->dX t cost n=none
 | n,hn=>by
   obtain⟨d,rfl⟩:∃d,n=k+d:=⟨n-k,by omega⟩;clear hn
   induction d with
   | zero=>exact h
   | succ d ih=>show(dX t cost (k+d)).bind _=none;rw[ih];rfl
theorem Xm{A B:o3}{k:o8}(h:Iw A k B=some r):Lp r=Lp A:=by
 unfold Iw at h;split at h
 ·exact cZ h
 cases h
theorem oJ{t:Tb}{cost:o3}:∀{k:Nat} {G:o3},dX t cost k=some G->Lp G=Lp cost+1
 | 0,G,h=>by simp only[dX,Pi]at h;rw[<-h];simp
 | k+1,G,h=>by
   simp only[dX]at h;cases e:dX t cost k with
   | none=>rw[e]at h;cases h
   | some c0=>rw[e]at h;simp only[kx]at h;rw[Xm h,oJ e]
theorem jb(h:QW w ra rn rc ba bn bc t)(ok:JF t=true):
 ∃m:Nat,t.A'=m/\m<=1000/\bn=rn/\(∀i,i<rn->Lp (t.row i)=m+rn+1)/\∀i,i<rn->∃b:Nat,t.basis[i]?.getD 0=(b:Int)/\b<m+rn:=by
 have l1:=h.rows.hlen;have l2:=h.basis.hlen;unfold JF at ok;simp only[cM,cq,fp,A8]at ok;obtain⟨⟨h1,h2⟩,h3,H,G⟩:=ok;refine⟨t.A'.toNat,by omega,by omega,by omega,λi hi=>?_,λi hi=>?_⟩
 ·have:=G _ (cP (l:=t.rows) (n:=i) O);unfold Tb.row;rw[In O,NE];omega
 have:=H _ (cP (l:=t.basis) (n:=i) O);rw[In O,NE];exact⟨t.basis[i].toNat,by omega,by omega⟩
section
variable{w:J}{ra:o6}{rn rc:Nat}{ba:o6}{bn bc:Nat}{t:Tb}
def XA(h:σ:=by
 have X1:=I (B4.trans hx);clear hx;go_wp2;refine GE (v:=.tuple #[d9,ato false]) Se rfl ⟨⟨d9,by rw[HN.o];rfl,by rw[HN.o];exact og⟩,X1⟩
 ):σ:=h
theorem DB(h:QW w ra rn rc ba bn bc t)(Kk:rn<=100000){ka:o6}{kn kc:Nat}{cost:o3}(hk:i8 w ka kn kc cost):
 Calls prog 327 #[Qk ra rn rc ba bn bc t.A',FB ka kn kc] w λe w'=>(∃v,e=atn (.tuple #[v,ato (dE t cost).isSome])/\ZM w' w v ((dE t cost).getD []))/\D4 w w':=by
 have Z:=I (ld (h.ext (D4.alloc w (dh ra rn rc ba bn bc t.A'))) O);have HTP:=I (λok=>jb h ok);obtain⟨rows,basis,x⟩:=t;have B9:=D4.alloc w (dh ra rn rc ba bn bc x);have B4:=I B9;have H:=I (h.ext B9);have KW:=I (hk.ext B9);have⟨FL,Hs⟩:=h.rows.ath;have⟨Gm,F0⟩:=h.basis.ath;have⟨Ij,r7⟩:=hk.ath;have GS:=I h.rows.hlen;have Va:=I hk.hlen;have HE:=I (show dE ⟨rows,basis,x⟩ cost=if(JF ⟨rows,basis,x⟩&&(decide ((kn:Int)=x+(rn:Int))&&Hf cost))=true then dX ⟨rows,basis,x⟩ cost rn else none by
  unfold dE sp;simp only;rw[h.rows.hlen,hk.hlen])
 show Calls _ _ #[Qk ra rn rc ba bn bc x,FB ka kn kc] w _;cases D9:JF ⟨rows,basis,x⟩
 ·rw[D9]at Z;have HN:=I (show dE ⟨rows,basis,x⟩ cost=none by rw[HE.o,D9];rfl);go_in
  go_wp2_with rfl;refine i6 Z λw1 hx=>?_;exact XA
 rw[D9]at Z;have⟨m,RZ,hm,Pg,GN,Kt⟩:=HTP.o D9;simp only at RZ;subst RZ Pg;have hre:=I D9;replace GN:=I GN;replace Kt:=I Kt;by_cases GF:kn=m+bn
 ·subst GF;have Rb:((m+bn:Nat):Int)=(m:Int)+(bn:Int):=by simp
  have hne:(((m+bn:Nat):Int) != (m:Int)+(bn:Int))=false:=j9;have HV:=I (λ(W:J) (hx:D4 (w.alloc (dh ra bn rc ba bn bc (m:Int))) W)=>mZ (KW.ext hx));cases hv:Hf cost
  ·simp only[hv]at HV;have HN:=I (show dE ⟨rows,basis,(m:Int)⟩ cost=none by rw[HE.o,hre.out,hv,Rb];simp);go_in
   go_wp2_with rfl;refine i6 Z λw1 hx=>?_;have c0:w1.cell? (IM w 0)=some (FB ra bn rc):=hx.o9 j9;have c2:w1.cell? (IM w 2)=some (U m):=hx.o9 j9;have X1:=I hx;go_wp2_with rfl;refine i6 (HV _ X1) λw2 hx=>?_;have X2:=I ((B4.trans X1).trans hx);go_wp2;refine GE (v:=.tuple #[d9,ato false]) Se rfl ⟨⟨d9,by rw[HN.o];rfl,by rw[HN.o];exact og⟩,X2⟩
  simp only[hv]at HV;have HV2:e9 (cost.all A5=true):=hv;have Iu:=I (show dE ⟨rows,basis,(m:Int)⟩ cost=dX ⟨rows,basis,(m:Int)⟩ cost bn by rw[HE.o,hre.out,hv,Rb];simp);go_in
  go_wp2_with rfl;refine i6 Z λw1 hx=>?_;have c0:w1.cell? (IM w 0)=some (FB ra bn rc):=hx.o9 j9;have c2:w1.cell? (IM w 2)=some (U m):=hx.o9 j9;have X1:=I hx;go_wp2_with rfl;refine i6 (HV _ X1) λw2 hx=>?_;have X2:=I (X1.trans hx);have HCL:=I (mS (KW.ext X2) O);go_wp2_with rfl;refine yf HCL λw3 v3 Gw hx=>?_;obtain⟨a3,n3,p3,rfl,NB⟩:=Gw.var;have X3:=I (X2.trans hx);have C8:=I (Gw.mono (show w.heap.size+1<=w2.heap.size by have:=X2.size;simpa using this));go_wp2_with rfl;refine i6 (cW 0 _) λw4 hx=>?_;have X4:=I (X3.trans hx);have Gh:=I (C8.ext hx);have Wb:w.heap.size+1<=w4.heap.size:=by have:=X4.size;simpa using this
  go_wp2_with (first
   | (at_builtin;refine Qt 0 1 Gh X4 (by rw[Va.o];omega) λa5 n5 p5 w5 JU X5 Fj=>?_;have c0:w5.cell? (IM w 0)=some (FB ra bn rc):=X5.o9 j9))
  go_loopg [6,38] bn (λgk o ii wr=>∃(k:Nat) (a1:o6) (n1 p1:Nat) (K:o3),e9 (gk+k=bn)/\ii=U k/\o=FB a1 n1 p1/\e9 (dX ⟨rows,basis,(m:Int)⟩ cost k=some K)/\e9 (ZM wr (w+1) (FB a1 n1 p1) K)/\e9 (D4 (w.alloc (dh ra bn rc ba bn bc (m:Int))) wr))
  ·exact⟨0,_,_,_,_,I O,rfl,rfl,I rfl,Fj,X5⟩
  obtain⟨k,a1,n1,p1,K,HK,rfl,rfl,HC,HO,HX⟩:=hrel;by_cases hlt:k<bn
  ·have⟨zb,Gd,za,zn,zc,Lf,Hl,A4⟩:=(H.ext HX).rows.at hlt;subst Lf;have Ja:=I A4;have⟨b,PN,LZ⟩:=Kt.o k hlt;have⟨yb,F3,MT,JB⟩:=(H.ext HX).basis.at hlt;subst MT;simp only[PN]at JB;have⟨xb,Py,p,q,TN,Fw,B9,B0⟩:=(KW.ext HX).at (show b<m+bn from LZ);subst TN;have Gi:=I Fw;have HBK:=I PN;have c1:wr.cell? (IM w 1)=some (FB (some (IM yb F3)) bn bc):=HX.o9 j9;have IY:=I (aV (p:=(p,q)) (by rw[<-Gi.o,In (by rw[Va.o];exact LZ),NE];exact(fp.1 HV2) _ (cP _)));have NJ:-9223372036854775807<=p:=by have:=IY.2.2.1;simp only at this;omega
   have OD:p<=9223372036854775807:=by have:=IY.2.2.2;simp only at this;omega
   have Ji:=I (oJ HC);have hbl0:(b:Int)<((m+bn:Nat):Int):=O;go_wp2_with rfl;refine i6 (fc p q _ NJ OD) λw6 hx=>?_;have X6:=I (HX.trans hx);have G:=I (qq (k1:=-p) (k2:=q) ((HO.ext hx).rats) (Ja.ext hx) (by have:=(HO.o).rats.hlen;have:=Ji.o;have:=Va.o;omega));have⟨sv,Od⟩:=j7 (Iw K (-p,q) (rows[k]?.getD []));have Hx:=I (show dX ⟨rows,basis,(m:Int)⟩ cost (k+1)=sv by
    rw[Od];show(dX ⟨rows,basis,(m:Int)⟩ cost k).bind _=_;rw[HC.o];show Iw K (D2 (cost[(basis[k]?.getD 0).toNat]?.getD (0,0))) (rows[k]?.getD [])=_;rw[show basis[k]?.getD 0=(b:Int)from HBK.o,eI,Gi.o];rfl)
   rw[<-Od]at G;clear Od;cases sv with
   | none =>
     have HN:=I (show dE ⟨rows,basis,(m:Int)⟩ cost=none by rw[Iu.o];exact si Hx.o hlt);go_wp2_with rfl;refine PP G λw7 v7 Sz hx=>?_;have X7:=I ((B4.trans X6).trans hx);go_wp2;refine GE (v:=.tuple #[d9,ato false]) Se rfl ⟨⟨d9,by rw[HN.o];rfl,by rw[HN.o];exact og⟩,X7⟩
   | some cs2 =>
     go_wp2_with rfl;refine PP G λw7 v7 Sz hx=>?_;obtain⟨a7,n7,p7,rfl,Ma⟩:=Sz.var;have Kb:e9 (ZM w7 (w+1) (FB a7 n7 p7) cs2):=ZM.mono Sz (by have:=X6.size;simpa using this);have X7:=I (X6.trans hx);go_wp2_with rfl;refine dk ?_;exact⟨k+1,a7,n7,p7,cs2,I (l8 HK.o),by go_num,rfl,Hx,Kb,X7⟩
  have E':bn=k:=l8 HK.o;subst E';have HY:=I (show dE ⟨rows,basis,(m:Int)⟩ cost=some K by rw[Iu.o];exact HC);go_wp2;refine GE (v:=.tuple #[FB a1 n1 p1,ato true]) Se rfl ⟨⟨FB a1 n1 p1,by rw[HY.o];rfl,by rw[HY.o];exact HO.mono (bq _)⟩,B4.trans HX.o⟩
 have hne:((kn:Int) != (m:Int)+(bn:Int))=true:=t8;have HN:=I (show dE ⟨rows,basis,(m:Int)⟩ cost=none by rw[HE.o,RK (by omega:¬(kn:Int)=(m:Int)+(bn:Int))];simp);go_in
 go_wp2_with rfl;refine i6 Z λw1 hx=>?_;have c0:w1.cell? (IM w 0)=some (FB ra bn rc):=hx.o9 j9;have c2:w1.cell? (IM w 2)=some (U m):=hx.o9 j9;exact XA
end
def Uj(h:σ:=by
 have⟨W,hW⟩:=j7 (w.alloc (SH #[U x,U y] 80));have HX:=I (show D4 w W by rw[hW];exact ZL);have c0:W.cell? (IM w.heap.size 0)=some (U x):=by rw[hW];simp
 have c1:W.cell? (IM w.heap.size 1)=some (U y):=by rw[hW];simp
 (try unfold f9);go_in
 go_upto_region 1 with rfl;rw[<-hW];clear hW;have r7:D4 W W.drew:=D4.drew W;have Fu:=r7;have r8:=I (λ(w':J) (h:D4 W w')=>(an (h.o9 c0) (an (h.o9 c1) h)))
 go_region_held3 (λw'=>w'.cell? (IM w.heap.size 0)=some (U x)/\w'.cell? (IM w.heap.size 1)=some (U y)/\D4 W w')
  (with_reducible exact r8.o _ r7)
  (first
    | ((with_reducible refine(qq0 0 _).mono ?_)
       rintro e w3 ⟨rfl,D3⟩;have r7:D4 W w3:=r7.trans D3;have Ra:=r7.size)
    | ((with_reducible refine(qq1 x y 0 1 _).mono ?_)
       rintro e w4 ⟨rfl,E7⟩;have r7:D4 W w4:=r7.trans E7;have UL:=r7.size))
 clear r8 Fu;go_wp2;go_ret;exact⟨rfl,HX.trans r7⟩
 ):σ:=h
theorem YQ(x y:Int)(w:J):f9 353 #[Ge x y] w (U (D' (x,y) (0,1))):=by
 have qq0:=@cW;have qq1:=@gQ;exact Uj
theorem Ds(h:Lp costs<m):bQ costs m=-1:=by unfold bQ;rw[i7 O]
theorem uX{j:Nat}(h:m<=Lp costs)(G:j<m)(K:(costs.take j).all (λc=>!gM c)=true)(H:gM (costs[j]?.getD (0,0))=true):bQ costs m=j:=by
 unfold bQ;rw[f8 O];refine fP (d:=(0,0)) t8 (by rw[eI,QA,TW O];exact K) ?_;rw[eI,Ro,i7 G];exact H
theorem qn(h:m<=Lp costs)(G:(costs.take m).all (λc=>!gM c)=true):bQ costs m=-1:=by
 unfold bQ;rw[f8 O,eI];exact eF G
theorem qm{j:Nat}{c:o8}(G:j<Lp costs)(hc:costs[j]?.getD (0,0)=c)(K:(costs.take j).all (λc=>!gM c)=true)(H:gM c=false):(costs.take (j+1)).all (λc=>!gM c)=true:=by
 rw[dO G,p7,K,hc];simp[H]
def xo(h:σ:=by
 (try unfold f9);go_in
 go_wp2
 go_loopg [7] m (λgk ii wr=>∃k:Nat,e9 (gk+k=m)/\ii=U k/\e9 ((costs.take k).all (λc=>!gM c)=true)/\e9 (D4 (w.alloc (dh ra rn rc ba bn bc x)) wr))
 ·exact⟨0,I O,rfl,I rfl,I So⟩
 case round =>
  obtain⟨k,HK,rfl,HA,X1⟩:=hrel;by_cases hlt:k<m
  ·have E':k<n:=by omega
   have⟨zb,Gd,p,q,Lf,Fw,Hl,Mh⟩:=(H.ext X1).at E';subst Lf;have Gi:=I Fw;have HS:=I (qq0 p q wr);have⟨sg,LQ⟩:=j7 (D' (p,q) (0,1));have MY:=I (show gM (p,q)=decide (sg<0)by rw[LQ];rfl);rw[<-LQ]at HS;clear Fw LQ;by_cases ME:sg<0
   ·have HF:=I (show bQ costs m=k from uX S4 hlt HA.o (by rw[Gi.o,MY.o,bl ME]));go_wp2_with rfl;refine HS.mono ?_;rintro e w3 ⟨rfl,hx⟩;have X2:=I (X1.trans hx);clear hx;go_wp2;go_ret;exact⟨au HF.symm,Ig.trans X2.o⟩
   have HT:=I (qm (by rw[HL.o];exact E') Gi.o HA.o (by rw[MY.o,RK ME]));go_wp2_with rfl;refine HS.mono ?_;rintro e w3 ⟨rfl,hx⟩;have X2:=I (X1.trans hx);clear hx;go_wp2_with rfl;refine dk ?_;exact⟨k+1,I (l8 HK.o),by go_num,HT,X2⟩
  have JS:m=k:=by have:=HK.o;omega
  subst JS;have HF:=I (show bQ costs m=-1 from qn S4 HA);go_wp2;go_ret;exact⟨au HF.symm,Ig.trans X1.o⟩
 ):σ:=h
theorem qW{x:Int}{cap:Nat}(h:i8 w a n cap costs)(m:Nat)(hm:m<=100000):
 f9 328 #[Qk ra rn rc ba bn bc x,FB a n cap,U m] w (U (bQ costs m)):=by
 have K:=D4.alloc w (dh ra rn rc ba bn bc x);have Ig:=I K;have H:=I (h.ext K);have⟨FQ,IH⟩:=h.ath;have HL:=I h.hlen;by_cases G:n<m
 ·have Z:e9 (bQ costs m=-1):=Ds (by rw[HL.o];exact G);have NL:(m:Int) > (n:Int):=by omega
  unfold f9;go_in
  go_wp2;go_ret;exact⟨au Z.symm,Ig⟩
 have hle:¬(m:Int) > (n:Int):=O;have qq0:=@YQ;exact xo
