import Derived.Test.YthpahcbmpoknmaaGreatDoorPzG39
import Derived.Lib.SliceRun
set_option linter.all false
set_option maxHeartbeats 6000000
set_option maxRecDepth 100000
namespace Go.Proofs.YthpahcbmpoknmaaGreatDoor
open Ending renaming returned->atn
open List renaming length->Lp
open Obj renaming cells->SH
open Value renaming slice->FB,bool->ato,pointer->ats
open Go.Proofs.Tryz Go.RowKit
variable{σ:Prop}
section
def ZT(h:σ:=by first|with_reducible exact r7.trans JZ|with_reducible exact Fu.trans JZ|with_reducible exact(r7.trans (D4.alloc _ _)).trans JZ):σ:=h
def Qx(h:σ:=by first|with_reducible exact r7.trans Ix|with_reducible exact Fu.trans Ix|with_reducible exact(r7.trans (D4.alloc _ _)).trans Ix):σ:=h
def Oe(h:σ:=by rw[Fp.o];exact FF.hg):σ:=h
def Uk(h:σ:=by simp[results,qq0,go_sem,z0,z1,z2]):σ:=h
def Rl(h:σ:=by rw[<-GV.o];exact hs):σ:=h
def Ld(h:σ:=by rw[Fp.o];exact GD.hg):σ:=h
def Mx{P Q:Prop}(q:Q)(h:Q->P:=by intro q;go_roundg (g2-1);exact q;have:=Q3.o;omega):P:=h q
variable{V:o7}{w:J}{a:o6}{n:Nat}
def bu(p:Int)(V:o7):Int:=if ak p V=true then V[Lp V-1]?.getD 0 else 0
theorem vh{p:Int}(h:ak p V=false):bu p V=0:=by unfold bu;rw[h];rfl
theorem eW{p:Int}(h:ak p V=true):bu p V=V[Lp V-1]?.getD 0:=by unfold bu;rw[i7 h]
def Vc(h:σ:=by
 have hi:=h.alloc (SH #[U p,FB a n cap] 31);have B4:=I (D4.alloc w (SH #[U p,FB a n cap] 31));have HL:=I h.hlen;have HI:=I hi;have HF:=I (qq0 (p:=p) hi);clear h hi;cases hv:ak p V
 ·rw[hv]at HF;have HN:=I (vh hv);clear hv;(try unfold f9);go_in
  go_wp2_with rfl;refine HF.mono ?_;rintro e w1 ⟨rfl,hx⟩;have X1:=I (B4.trans hx);clear hx;go_wp2;go_ret;exact⟨au HN.symm,X1⟩
 ·rw[hv]at HF;obtain⟨q,rfl,h1,h5,hlen,_,Kw⟩:=ap hv;have hN:=bp q h5;obtain⟨u,rfl⟩:∃u,n=u+1:=⟨n-1,by have:=HL.o;omega⟩;have HN:=I (show bu (q:Int) V=V[u]?.getD 0 by rw[eW hv,HL.o];rfl);have Y7:u<=31:=by have:=HL.o;omega
  clear hv hlen Kw hN;(try unfold f9);go_in
  go_wp2_with rfl;refine HF.mono ?_;rintro e w1 ⟨rfl,hx⟩;have c1:w1.cell? (IM w.heap.size 1)=some (FB a (u+1) cap):=hx.o9 j9;obtain⟨b,off,rfl,hc⟩:=(HI.ext hx).at (show u<u+1 by omega);have Mj:((u+1:Nat):Int)-1=(u:Int):=by omega
  have X1:=I (B4.trans hx);clear hx;go_wp2;go_ret;exact⟨au HN.symm,X1⟩
 ):σ:=h
theorem iY{p:Int}{cap:Nat}(h:d6 w a n cap V):
 f9 172 #[Id p a n cap] w (U (bu p V)):=by
 have qq0:=@bY;exact Vc
theorem iR{p:Int}{cap:Nat}(h:d6 w a n cap V):
 f9 129 #[Id p a n cap] w (U (bu p V)):=by
 have qq0:=@bV;exact Vc
def QH(s:Nat):Nat:=(List.range 5).countP λk=>M2 (s:Int) k
theorem AN(s:Nat):QH s<=5:=by unfold QH;exact bR Pz j9
theorem wF(s:Nat)(hs:s<32)(w:J):Calls prog 271 #[.int .u64 (s:Int)] w λe w'=>e=atn (U (QH s))/\w=w':=by
 go_in
 go_wp2;go_ret;refine⟨au ?_,rfl⟩
 revert s
 decide +kernel
theorem zS(s:Nat)(hs:s<32)(w:J):Calls prog 199 #[.int .u64 (s:Int)] w λe w'=>e=atn (U (QH s))/\w=w':=by
 go_in
 go_wp2_with (go_at_call 271;refine cR (wF s hs _) ?_);go_ret;exact⟨rfl,rfl⟩
theorem Cr:∀s:Fin 32,∀k:Fin 5,M2 ((s.val:Nat):Int) k.val=false->bits .or .i64 ((s.val:Nat):Int) (2^k.val)=((s.val:Nat):Int)+2^k.val:=by decide +kernel
theorem gE{s k:Nat}(hs:s<32)(G:k<5)(h:M2 (s:Int) k=false):bits .or .i64 (s:Int) (2^k)=(s:Int)+2^k:=Cr ⟨s,hs⟩ ⟨k,G⟩ h
theorem Fi:∀n:Fin 6,∀s:Fin 32,∀k:Fin 5,s.val<cN n.val->k.val<n.val->M2 ((s.val:Nat):Int) k.val=false->s.val+2^k.val<cN n.val:=by decide +kernel
theorem WS{s k:Nat}(G:n<=5)(hs:s<cN n)(H:k<n)(h:M2 (s:Int) k=false):s+2^k<cN n :=
 Fi ⟨n,by omega⟩ ⟨s,by have:=bp n G;omega⟩ ⟨k,by omega⟩ hs H h
theorem Dd(s:Int)(k:Nat)(h:0<=s)(h':s<=9223372036854775807):(bits BinOp.and IntKind.i64 (s/2^k) 1 == 0)=!M2 s k:=by
 exact LO
theorem BZ(k:Nat)(h:k<=5):IntKind.i64.wrap ((2:Int)^k)=2^k:=by
 have:=fk k;have:=gG k h;rw[j0];omega
def KQ(wt:Nat->Int)(V:o7)(k:Nat):Nat->Int
 | 0=>0
 | m+1=>KQ wt V k m+(if M2 (m:Int) k=true then 0 else wt (QH m)*(V[m+2^k]?.getD 0-V[m]?.getD 0))
def nx(wt:Nat->Int)(V:o7)(d:Int)(k:Nat):o8:=(aN (KQ wt V k (Lp V)) d).1
def NV(wt:Nat->Int)(V:o7)(d:Int)(m:Nat):o3:=(List.range m).map (nx wt V d)
theorem oB(wt:Nat->Int)(V:o7)(d:Int):NV wt V d 0=[]:=rfl
theorem oA(wt:Nat->Int)(V:o7)(d:Int)(m:Nat):NV wt V d (m+1)=NV wt V d m++[nx wt V d m]:=by simp[NV,mr]
theorem kN(wt:Nat->Int)(V:o7)(d:Int)(m:Nat):Lp (NV wt V d m)=m:=by simp[NV]
theorem du(G:∀x∈V,-500<=x/\x<=500)(k:Nat):-500<=V[k]?.getD 0/\V[k]?.getD 0<=500:=by
 by_cases h:k<Lp V
 ·have:=G _ (cP h);simpa[h]using this
 simp[mq (by omega:V.length<=k)]
theorem tT{x y:Int}(h1:-1000<=x)(h2:x<=1000)(h3:-1000<=y)(h4:y<=1000):-1000000<=x*y/\x*y<=1000000:=by
 have h:(x*y).natAbs<=1000*1000:=by rw[S3];exact yy O O
 omega
theorem pG{wt:Nat->Int}{V:o7}(G:∀x∈V,-500<=x/\x<=500)(hw:∀i,-1000<=wt i/\wt i<=1000)(k:Nat):∀m:Nat,-(1000000*m:Int)<=KQ wt V k m/\KQ wt V k m<=1000000*m
 | 0=>by simp[KQ]
 | m+1=>by
   have ih:=pG G hw k m;unfold KQ;have h1:=du G (m+2^k);have h2:=du G m;have H:=hw (QH m);have h4:=tT H.1 H.2 (y:=V[m+2^k]?.getD 0-V[m]?.getD 0) O O
   split<;>omega
def Za(h:σ:=by
 exact⟨j+1,by omega,by go_num,by unfold KQ;rw[HB.o,<-HT.o];simp,C7⟩
 ):σ:=h
theorem sR{m cap:Nat}{H:FuncId}{ca:Array atY}{wt:Nat->Int}{d:Int}(h:d6 w a m cap V)(h1:1<=n)(h5:n<=5)(hm:m=cN n)(hV:∀x∈V,-500<=x/\x<=500)(hw:∀i,-1000<=wt i/\wt i<=1000)
 (hg:Rd prog H) (hf:iK prog w H ca 6 wt) :
 Calls prog 119 #[Id n a m cap,.func (.func H) #[] ca,U d] w λe w'=>(∃v,e=atn v/\ZM w' w v (NV wt V d n))/\D4 w w':=by
 have hN:=bp n h5;have VD:∀(args:Array atY) (w:J),(callFunc H args).run prog w=.ok (.enter H args) w:=hg;have hi:=h.alloc (SH #[U n,FB a m cap] 31);refine Fn (D4.alloc w (SH #[U n,FB a m cap] 31)) h.hlen hi λHX HL HI=>?_;have HF:=I (hf.ext HX);have HO:=I (ZM.made (w.alloc (SH #[U n,FB a m cap] 31)) (w+1) j9);have⟨y7,y8⟩:=h.ath;refine Fn hV hw hm λHV HW MQ=>?_;have Zu:m<=32:=O;clear h hi hf hg hV hw hm hN;go_in
 go_wp2
 go_loopw [7,17] (λo i wr=>∃(k:Nat) (a1:o6) (n1 p1:Nat),k<=n/\i=U k/\o=FB a1 n1 p1/\e9 (ZM wr (w+1) (FB a1 n1 p1) (NV wt V d k))/\e9 (D4 (w.alloc (SH #[U n,FB a m cap] 31)) wr)) (λ_ i _=>n-(intOf i).toNat)
 ·exact⟨0,_,_,_,ef _,rfl,rfl,I (by rw[oB];simpa using HO.o),I ZL⟩
 obtain⟨k,a1,n1,p1,hk,rfl,rfl,HO1,A6⟩:=hrel;have c0:wr.cell? (IM w 0)=some (U n):=A6.o9 j9;have c1:wr.cell? (IM w 1)=some (FB a m cap):=A6.o9 j9;by_cases hlt:k<n
 ·have Oo:=I (HI.ext A6);have HF1:=I (HF.ext A6);have hp:=fk k;have Vv:=gG k O;go_wp2
  go_loopw [9,23] (λt i wr2=>∃(j:Nat),j<=m/\i=U j/\t=U (KQ wt V k j)/\e9 (D4 wr wr2)) (λ_ i _=>m-(intOf i).toNat)
  ·exact⟨0,ef _,rfl,rfl,I So⟩
  obtain⟨j,hj,rfl,ht,C7⟩:=hrel;have⟨T,HT⟩:=Ok (KQ wt V k j);have hTb:=pG HV.o HW.o k j;rw[<-HT.o]at ht hTb;subst ht;have c1':=C7.o9 c1;by_cases F4:j<m
  ·have HI2:=I (Oo.ext C7);have⟨b,off,he,hc⟩:=HI2.at F4;have Lh:=du HV.o j;have⟨v1,HY1⟩:=Ok (V[j]?.getD 0);rw[<-HY1.o]at hc Lh;subst he;have hb:=Dd (j:Int) k O O;cases G:M2 (j:Int) k
   ·rw[G]at hb;have HB:=I G;have hu:=WS h5 (by rw[<-MQ.o];exact F4) hlt G;have TV:=gE (s:=j) (k:=k) O O G;obtain⟨u,Qm⟩:∃u:Nat,u=j+2^k:=⟨_,rfl⟩;have hui:(j:Int)+2^k=(u:Int):=by rw[Qm];simp
    have hum:u<m:=by rw[MQ.o,Qm];exact hu
    rw[hui]at TV;have⟨b2,off2,US,IH⟩:=HI2.at hum;obtain⟨rfl,rfl⟩:=er US;clear US;have OB:=du HV.o u;have⟨v2,HY2⟩:=Ok (V[u]?.getD 0);rw[<-HY2.o]at IH OB;have HU:=I Qm;clear G hu hui Qm;have S9:=HW.o (QH j);have⟨W,Z⟩:=Ok (wt (QH j));rw[<-Z.o]at S9;have hmul:=tT S9.1 S9.2 (y:=v2-v1) O O;have⟨X,hX⟩:=j7 (W*(v2-v1));rw[<-hX]at hmul;have JT:=I hX;have e1:=dc (v2-v1);have e2:IntKind.i64.wrap (W*(v2-v1))=X:=by rw[<-hX,j0];omega
    have e3:=dc (T+X);have e4:=BZ k O;have HU64:=I (show IntKind.u64.wrap (j:Int)=(j:Int)by simp only[IntKind.wrap,IntKind.bits,IntKind.signed];simp;omega);have K:=D4.drew wr;have aev:u<=32:=O;clear hX hmul S9 Lh OB hTb hp Vv;go_wp2
    go_region_held3 (λw'=>w'.cell? (IM w 1)=some (FB (some (IM b off)) m cap)/\w'.cell? (IM b (off+u))=some (U v2)/\D4 wr w')
     (exact⟨K.o9 c1',K.o9 IH,K⟩)
     (first
       | (go_at_call 199;rw[HU64.o];refine cR (zS j O _) ?_)
       | (refine i6 (HF1 (QH j) _ (l8 (AN j)) (C7.trans K)) λw5 F'=>?_;rw[<-Z.o];have K:=K.trans F'))
    go_wp2
    go_roundw
    case rel=>exact⟨j+1,by omega,by go_num,by unfold KQ;rw[HB.o,<-HT.o,<-Z.o,<-HU.o,<-HY2.o,<-HY1.o,<-JT.o];simp[go_sem,e3],I (C7.trans K)⟩
    exact k9
   rw[G]at hb;have HB:=I G;clear G;go_wp2
   go_roundw
   case rel=>exact Za
   exact k9
  have Nh:j=m:=O;subst Nh;obtain⟨p,q,ok,Fw⟩:∃p q ok,aN T d=((p,q),ok):=⟨_,_,_,rfl⟩;refine Fn Fw (A6.trans C7) (HO1.ext C7) λGi Wr FM=>?_;have J0:w.heap.size+1<=wr.heap.size:=by have:=Wr.size;simpa using this
  clear Fw;go_wp2_with rfl;refine qc (mF _ _ _) λw3 C0=>?_;rw[Gi.o];have X3:=I (Wr.trans C0);have C8:=I (FM.ext C0);have MC:=C0.size
  go_wp2_with (first
   | (at_builtin;refine cH rfl _ _ rfl (w+1) (FB a1 n1 p1) _ rfl ((C8.ext ZL).ext ZL) _ 1 _ [(p,q)] rfl (z6 j9) (by rw[kN];omega) t8 ?_;intro v2 w4 ho hg r';obtain⟨a2,n2,c2,rfl,Jb⟩:=ho.var;have Gh:=I ho;have HG4:=I hg;clear ho hg r'))
  go_roundw
  case rel =>
   refine⟨k+1,a2,n2,c2,by omega,by go_num,rfl,I ?_,I ?_⟩
   ·rw[oA,nx,HL.o,<-HT.o,Gi.o];exact Gh
   exact aj (X3.trans (ZL.trans ZL)) HG4.o (λj hj=>by have:=(C8.lt j hj).1;simpa using this)
  exact k9
 go_wp2;go_ret;have E':k=n:=O;subst E';exact⟨⟨_,rfl,HO1.mono O⟩,HX.trans A6.o⟩
end
section
variable{w:J}
def fi(ok:Bool)(g:Int)(r:I'):Int:=if ok=false then 0 else if r.status≠1 then 3 else if 0<D' (D2 r.value) (g,1) then 2 else if((eO g r).2&&(ko g r).2)=true then 1 else 3
def fJ(ok:Bool)(g:Int)(r:I'):Int:=if ok=false then 0 else if r.status≠1 then 3 else if(eO g r).2=false then 3 else if(eO g r).1.1<0 then 2 else if(ko g r).2=true then 1 else 3
def UQ(w:J)(base:Nat)(e:Ending)(code:Int)(pt:o3):Prop :=
 ∃pa pn pc wa wn wc,e=atn (.agg #[U code,FB pa pn pc,FB wa wn wc])/\(code=1->ZM w base (FB pa pn pc) pt)
theorem fS{g:Nat}{a b c:atY}{t:TypeId}(hb:w.heap[g]?=some (SH #[a,b,c] t (0,0))):
 w.cell? (IM g 0)=some a/\w.cell? (IM g 1)=some b/\w.cell? (IM g 2)=some c/\∀k,w.frozen? (IM g k)=false:=by
 refine⟨?_,?_,?_,λk=>fy w g k _ _ hb⟩<;>rw[UV w g _ _ _ _ hb]<;>rfl
theorem An{W:J}{r:Nat}{x0 K H:atY}{t:TypeId}(hb:W.heap[r]?=some (SH #[x0,K,H] t (0,0)))(Q:D4 w W)(hr:w.heap.size<=r)(v0 v1 v2:atY):
 D4 w (((W.setCell (IM r 0) v0).setCell (IM r 1) v1).setCell (IM r 2) v2)/\(((W.setCell (IM r 0) v0).setCell (IM r 1) v1).setCell (IM r 2) v2).cell? (IM r 0)=some v0/\(((W.setCell (IM r 0) v0).setCell (IM r 1) v1).setCell (IM r 2) v2).cell? (IM r 1)=some v1/\(((W.setCell (IM r 0) v0).setCell (IM r 1) v1).setCell (IM r 2) v2).cell? (IM r 2)=some v2 /\
  ∀b,b≠r->(((W.setCell (IM r 0) v0).setCell (IM r 1) v1).setCell (IM r 2) v2).heap[b]?=W.heap[b]?:=by
 have h1:=aM W r 0 _ t v0 hb;have h:=aM _ r 1 _ t v1 h1;have Z:=aM _ r 2 _ t v2 h;obtain⟨c0,c1,c2,_⟩:=fS (a:=v0) (b:=v1) (c:=v2) Z;exact⟨((Q.setCell (p:=(IM r 0)) hr _).setCell (p:=(IM r 1)) hr _).setCell (p:=(IM r 2)) hr _,c0,c1,c2,λb G=>(If _ _ _ _ G).trans ((If _ _ _ _ G).trans (If _ _ _ _ G))⟩
theorem kT{V:o7}(hb:∀x∈V,-500<=x/\x<=500)(k:Nat):-500<=V[k]?.getD 0/\V[k]?.getD 0<=500:=by
 by_cases h:k<Lp V
 ·rw[In h];exact hb _ (cP h)
 rw[mq O];simp
def SG(h:σ:=by
 have HZ:=I z;have Qu:=I zo;clear z zo;go_wp2;refine GE (v:=.agg #[U 3,d9,d9]) Uk rfl ⟨⟨_,_,_,_,_,_,by rw[HC.o],λh=>by rw[HC.o]at h;cases h⟩,HZ⟩
 ):σ:=h
def MF(h:σ:=by
 clear hgo;go_in
 go_wp2_with rfl;rw[<-hW];refine LH.mono ?_;rintro e w1 ⟨⟨la,Mu,My,lb,Ms,Mx,lc,Mr,Mw,rfl,_⟩,hx⟩;unfold JI;have⟨w2,hw2⟩:=j7 (w1.alloc (bT la Mu My lb Ms Mx lc Mr Mw));have X2:D4 W w2:=by rw[hw2];exact hx.trans ZL
 have⟨q0,q1,q2,qf⟩:=MP.o w2 X2;obtain⟨z,z0,z1,z2,_⟩:=GK.o w2 X2 0 d9 (d9);have HZ:=I z;go_upto_region 2 with rfl;rw[<-hw2];clear hx hw2 hW z;go_wp2;refine GE (v:=.agg #[U 0,d9,d9]) Uk rfl ⟨⟨_,_,_,_,_,_,by rw[HC.o],λh=>by rw[HC.o]at h;cases h⟩,HZ⟩
 ):σ:=h
def ey(h:σ:=by
 have HZ:=I z;have Qu:=I zo;clear z zo;go_wp2;refine GE (v:=.agg #[U 2,d9,FB xa xn xc]) Uk rfl ⟨⟨_,_,_,_,_,_,by rw[HC.o],λh=>by rw[HC.o]at h;cases h⟩,HZ⟩
 ):σ:=h
theorem BO{p:Int}{a:o6}{n cap:Nat}{V:o7}(h:d6 w a n cap V):
 Calls Tryz.prog 62 #[Id p a n cap] w λe w'=>UQ w' w e (fi (ak p V) (bu p V) (bH az (dQ p.toNat n) (ed p.toNat) (aY V))) (V4 (bu p V) (bH az (dQ p.toNat n) (ed p.toNat) (aY V)))/\D4 w w':=by
 have⟨W,hW⟩:=j7 ((w.alloc (SH #[U p,FB a n cap] 31)).alloc (SH #[U 0,d9,d9] 92));have Oa:W.heap.size=w.heap.size+2:=by rw[hW];simp
 have hX:D4 w W:=by rw[hW];exact ZL.trans ZL
 refine kv (show W.heap[w.heap.size+1]?=some (SH #[U 0,d9,d9] 92 (0,0))by rw[hW];exact LE j9) (show W.cell? (IM w 0)=some (U p)by rw[hW];exact D4.o9 ZL j9) (show W.cell? (IM w 1)=some (FB a n cap)by rw[hW];exact D4.o9 ZL j9) (h.ext hX) hX λE6 Kz K9 HI HX=>?_;have LH:=I (xB (p:=p) HI);have⟨g,Oh⟩:=j7 (bu p V);have⟨r,FH⟩:=j7 (bH az (dQ p.toNat n) (ed p.toNat) (aY V));have HG:=I Oh;have GV:=I FH;rw[<-Oh,<-FH];have GK:=I (λ(w':J) (hx:D4 W w') (code:Int) (x1 x2:atY)=>An (w:=w) ((hx.block _ O).trans E6) (HX.trans hx) (bq _) (U code) x1 x2);have MP:=I (λ(w':J) (hx:D4 W w')=>fS ((hx.block _ O).trans E6));clear h hX Oh FH;cases hgo:ak p V
 ·rw[hgo]at LH;have HC:e9 (fi false g r=0):=I (rfl);have qq0:=@xy;exact MF
 rw[hgo]at LH;obtain⟨q,Fw,I6,Lk,SI,_,Om⟩:=ap hgo;have JC:-500<=g/\g<=500:=by rw[HG.o,eW hgo];exact kT Om _
 have Gi:=I Fw;clear hgo SI Om Fw;go_in
 go_wp2_with rfl;rw[<-hW];refine LH.mono ?_;rintro e w1 ⟨⟨la,Mu,My,lb,Ms,Mx,lc,Mr,Mw,rfl,Qs⟩,hx⟩;unfold JI;have⟨w2,hw2⟩:=j7 (w1.alloc (bT la Mu My lb Ms Mx lc Mr Mw));have C9:D4 w1 w2:=by rw[hw2];exact ZL
 have X2:=I (hx.trans C9);have GG:=I (lQ ((Qs rfl).ext C9));rw[<-GV.o]at GG;have t0:=aw (show w2.heap[w1.heap.size]?=some (SH #[FB la Mu My,FB lb Ms Mx,FB lc Mr Mw] 124 (0,0))by rw[hw2];exact LE rfl);have t1:=aJ (show w2.heap[w1.heap.size]?=some (SH #[FB la Mu My,FB lb Ms Mx,FB lc Mr Mw] 124 (0,0))by rw[hw2];exact LE rfl);have t2:=aK (show w2.heap[w1.heap.size]?=some (SH #[FB la Mu My,FB lb Ms Mx,FB lc Mr Mw] 124 (0,0))by rw[hw2];exact LE rfl);go_upto_region 2 with rfl;rw[<-hw2];clear hx C9 Qs hw2 hW;go_wp2_with rfl;refine GG.mono ?_
 have Hx:=I (λ(hs:r.status=1)=>show Lp r.Y=q/\A5 r.value=true/\∀k,k<Lp r.Y->A5 (r.Y[k]?.getD (0,0))=true by
  have:=fD (bound:=az) (A:=dQ p.toNat n) (B:=ed p.toNat) (C:=aY V) Rl;rw[<-GV.o]at this;refine⟨?_,this.2.2.2.2⟩;rw[this.2.2.2.1];unfold ed;rw[yl,Gi.o,eI])
 rintro e w3 ⟨⟨xa,xn,xc,ya,yn,yc,ra,rn,rc,rfl,LV⟩,C0⟩;have⟨w4,Hr⟩:=j7 (w3.alloc (de r xa xn xc ya yn yc ra rn rc));have E4:D4 w3 w4:=by rw[Hr];exact ZL
 refine Fn ((X2.trans C0).trans E4) (LV.here.ext E4) (show w4.heap[w3.heap.size]?=some (de r xa xn xc ya yn yc ra rn rc)by rw[Hr];exact LE rfl) λX4 GS FG=>?_;obtain⟨rs,rX,rY,rr,⟨FR,Fz⟩,rp⟩:=r;unfold JA;go_upto_region 5 with rfl;rw[<-Hr];clear LV C0 E4 Hr t0 t1 t2;generalize w3.heap.size=b5 at FG⊢;have hb5l:=IO FG.o;have⟨l0,l1,l2,l3,l4,l5,l6,lf⟩:=FN FG.o
 try simp only at l0 l1 l2 l3 l4 l5 l6
 by_cases hs:rs=1
 ·have⟨Oz,NF,Lg⟩:=Hx.o hs
  try simp only at Oz NF Lg
  subst hs;have Ha:=aV NF
  try simp only at Ha
  have Lx:=I (λ(w':J) (hx:D4 W w')=>iR (p:=p) (HI.ext hx));simp only[<-HG.o]at Lx;have b0:=X4.o9 Kz.o;have b1:=X4.o9 K9.o;have HYV:=I Lg;have OQ:=I Oz;clear NF Lg Oz;go_wp2_with rfl;refine qc (Lx _ X4) λw5 F'=>?_;go_wp2_with rfl;refine qc (cW g _) λw6 Jg=>?_;have⟨w7,Ie⟩:=j7 (w6.alloc (SH #[U g,U 1] 80));have Jk:D4 w4 w7:=by rw[Ie];exact(F'.trans Jg).trans ZL
  have X7:=I (X4.trans Jk);have Ga:=I (Jk.blk FG);have e0:w7.cell? (IM w6 0)=some (U g):=by rw[Ie];simp
  have e1:w7.cell? (IM w6 1)=some (U 1):=by rw[Ie];simp
  have HY7:=I (GS.y.ext Jk);have⟨m0,m1,m2,m3,m4,m5,m6,mf⟩:=FN Ga.o
  try simp only at m0 m1 m2 m3 m4 m5 m6
  go_upto_region 8 with rfl;rw[<-Ie];clear Jk Ie l0 l1 l2 l3 l4 l5 l6 lf b0 b1;generalize w6.heap.size=b6 at e0 e1⊢;have⟨Z,HZC⟩:=Ok (D' (-FR,Fz) (g,1));go_wp2_with rfl;have r7:=D4.drew w7;have Fu:=r7;have r8:=I (λ(w':J) (h:D4 w7 w')=>(an (h.o9 m4) (an (h.o9 m5) (an (h.o9 e0) (an (h.o9 e1) h)))));go_wp2_with rfl
  go_region_held3 (λw'=>w'.cell? (IM b5 4)=some (U FR)/\w'.cell? (IM b5 5)=some (U Fz)/\w'.cell? (IM b6 0)=some (U g)/\w'.cell? (IM b6 1)=some (U 1)/\D4 w7 w')
   (with_reducible exact r8.o _ r7)
   (first
     | ((with_reducible refine(fc FR Fz _ O O).mono ?_)
        rintro e w8 ⟨rfl,Hm⟩;have r7:D4 w7 w8:=r7.trans Hm;have hs_w8:=r7.size)
     | ((with_reducible refine(gQ (-FR) Fz g 1 _).mono ?_)
        rw[<-HZC.o];rintro e w9 ⟨rfl,Sr⟩;have r7:D4 w7 w9:=r7.trans Sr;have hs_w9:=r7.size))
  clear Fu;have X9:=X7.trans r7;have N6:=I (r7.blk Ga);have⟨k0,k1,k2,k3,k4,k5,k6,kf⟩:=FN N6.o
  try simp only at k0 k1 k2 k3 k4 k5 k6
  have f0:=r7.o9 e0;have f1:=r7.o9 e1;have HY9:=I (HY7.ext r7);have adP:=I X9;clear m0 m1 m2 m3 m4 m5 m6 mf e0 e1 r7;by_cases hz:0<Z
  ·have HC:=I (show fi true g ⟨1,rX,rY,rr,(FR,Fz),rp⟩=2 by
    unfold fi;rw[f8 j9,f8 j9,i7 (by show 0<D' (-FR,Fz) (g,1);rw[<-HZC.o];exact hz)])
   have⟨q0,q1,q2,qf⟩:=MP.o w9 X9;have⟨z,z0,z1,z2,zo⟩:=GK.o w9 X9 2 d9 (FB xa xn xc);have qq0:=@xy;exact ey
  have ajQ:yn<=100000:=by have h1:=HY9.hlen;have h2:=OQ.o;(try simp only at h1);omega
  have U':=I (nh HY9.o ajQ (λk=>by
   by_cases hk:k<Lp rY
   ·have:=aV (HYV k hk);omega
   rw[mq O];simp))
  clear X9;go_wp2_with rfl;refine hF U' λO6 v ho MA=>?_;obtain⟨a10,K,p10,rfl,adZ⟩:=ho.var;have Jx:=I ho;have HB10:=I (MA.blk N6);have⟨m0,m1,m2,m3,m4,m5,m6,mf⟩:=FN HB10.o
  try simp only at m0 m1 m2 m3 m4 m5 m6
  have e0:=MA.o9 f0;have e1:=MA.o9 f1;have X10:=I (adP.trans MA);obtain⟨s1,s2,one,QM⟩:∃s1 s2 o,F6 (g,1) (FR,Fz)=((s1,s2),o):=⟨_,_,_,rfl⟩;have Hi:=I QM;clear ho k0 k1 k2 k3 k4 k5 k6 kf f0 f1 QM;go_wp2_with rfl;refine qc (kW g 1 FR Fz _) λQ9 QI=>?_;rw[Hi.o];have⟨N7,Y4⟩:=j7 (Q9.alloc (SH #[U s1,U s2] 80));have Jq:D4 O6 N7:=by rw[Y4];exact QI.trans ZL
  have Wr:=I (X10.trans Jq);have d0:N7.cell? (IM Q9 0)=some (U s1):=by rw[Y4];simp
  have d1:N7.cell? (IM Q9 1)=some (U s2):=by rw[Y4];simp
  have Qd:=I (Jx.ext Jq);have MG:Lp (rY.map D2)=q:=by rw[b7];exact OQ
  have U9:=I (show K=q by rw[<-adZ.o];exact MG);obtain⟨u,hu⟩:∃u:Nat,u+1=K:=⟨K-1,by have:=U9.o;omega⟩;have LP:(K:Int)-1=(u:Int):=O;have Nv:u<K:=O;have hwu:IntKind.i64.wrap ((K:Int)-1)=(u:Int):=by rw[LP,j0];have:=Qd.rats.y7;have:=Qd.rats.y8;omega
  have Li:=aE u;have hul:=SW u K;obtain⟨xb,xo,x1,x2,rfl,Vo,TM,UI⟩:=Qd.rats.at Nv;obtain⟨l1,l2,two,hls⟩:∃l1 l2 o,F6 (x1,x2) (s1,s2)=((l1,l2),o):=⟨_,_,_,rfl⟩;have HLS:=I hls;have Jc:=I (show ko g ⟨1,rX,rY,rr,(FR,Fz),rp⟩=((l1,l2),two)by
   unfold ko eO Rr;simp only;rw[MG,<-U9.o,show K-1=u by omega,Vo,Hi.o,hls])
  have Q1:=I (show V4 g ⟨1,rX,rY,rr,(FR,Fz),rp⟩=(rY.map D2).set u (l1,l2)by
   unfold V4 Rr;simp only;rw[Jc.o,MG,<-U9.o,show K-1=u by omega])
  have HUL:=I (show u<Lp (rY.map D2) by rw[MG,<-U9.o];exact Nv);have Nr:e9 (eO g ⟨1,rX,rY,rr,(FR,Fz),rp⟩=((s1,s2),one)):=Hi;have Q5:=I (show fi true g ⟨1,rX,rY,rr,(FR,Fz),rp⟩=if(one&&two)=true then 1 else 3 by
   unfold fi;rw[f8 j9,f8 j9,f8 (by show¬0<D' (-FR,Fz) (g,1);rw[<-HZC.o];omega),Nr.o,Jc.o])
  have⟨hc10,hm10⟩:=Qd.rats.ath;go_upto_region 12 with rfl;rw[<-Y4];clear Y4 Jq hls Vo hu LP MG m0 m1 m2 m3 m4 m5 m6 mf e0 e1;generalize Q9.heap.size=b8 at d0 d1⊢;go_upto_region 12 with rfl
  go_cut [10,11] (λsx so wx=>∃gb:Nat,sx=ats (some (IM gb 0))/\so=ato two/\e9 (ai N7 wx gb l1 l2))
  case first =>
   have r7:=D4.drew N7;have Fu:D4 N7 (N7.alloc (SH #[U 0,U 0] 80)).drew:=ZL.trans fl;have r8:=I (λ(w':J) (h:D4 N7 w')=>(an (h.o9 TM) (an (h.o9 UI) (an (h.o9 d0) (an (h.o9 d1) h)))))
   go_region_held3 (λw'=>w'.cell? (IM xb (xo+u*2))=some (U x1)/\w'.cell? (IM xb (xo+u*2+1))=some (U x2)/\w'.cell? (IM b8 0)=some (U s1)/\w'.cell? (IM b8 1)=some (U s2)/\D4 N7 w')
    (exact yg)
    (first
      | ((with_reducible refine(kW _ _ _ _ _).mono ?_)
         rw[HLS.o];rintro e w14 ⟨rfl,Ix⟩
         try with_reducible first|have A7:=ai.grow A7 Ix|have A7:=ai.Fk Ix|have A7:=ai.Fq r7 Ix
         try(have Ko:=A7.c0;have Kn:=A7.c1;have L4:=A7.free)
         have r7:D4 N7 w14:=Qx;have G7:=r7.size))
   all_goals(exact yx)
  obtain⟨gb,rfl,rfl,HB⟩:=hcut;have XC:=Wr.trans HB.ext;have g0:=HB.c0;have g1:=HB.c1;have Ns:=I (Qd.ext HB.ext);clear TM UI d0 d1;cases one
  ·have HC:=I (show fi true g ⟨1,rX,rY,rr,(FR,Fz),rp⟩=3 by rw[Q5.o];rfl);have⟨q0,q1,q2,qf⟩:=MP.o wc XC;have⟨z,z0,z1,z2,zo⟩:=GK.o wc XC 3 d9 (d9);have qq0:=@xy;exact SG
  cases two
  ·have HC:=I (show fi true g ⟨1,rX,rY,rr,(FR,Fz),rp⟩=3 by rw[Q5.o];rfl);have⟨q0,q1,q2,qf⟩:=MP.o wc XC;have⟨z,z0,z1,z2,zo⟩:=GK.o wc XC 3 d9 (d9);have qq0:=@xy;exact SG
  have HC:=I (show fi true g ⟨1,rX,rY,rr,(FR,Fz),rp⟩=1 by rw[Q5.o];rfl);have⟨gp,hgp,JC,ZA,LW⟩:=Ns.block Nv;obtain⟨rfl,rfl⟩:=er hgp;clear hgp;obtain⟨y0,y1,y2,y3,hyq,_,hyc,hyd⟩:=Ns.rats.at Nv;obtain⟨rfl,rfl⟩:=er hyq;clear hyq;rw[fs]at hyc hyd;have NA:=I (Ns.set HUL.o l1 l2);have hwg:W.heap.size<=xb:=l8 adP.size;have XP:D4 W ((wc.setCell (IM xb (u*2)) (U l1)).setCell (IM xb (u*2+1)) (U l2)):=(XC.setCell (p:=(IM xb (u*2))) hwg _).setCell (p:=(IM xb (u*2+1))) hwg _;have⟨wp,hwp⟩:=j7 ((wc.setCell (IM xb (u*2)) (U l1)).setCell (IM xb (u*2+1)) (U l2));rw[<-hwp]at NA XP;rw[<-Q1.o]at NA;go_upto_region 16 with rfl;rw[<-hwp];clear hwp hyc hyd ZA g0 g1 XC;have⟨q0,q1,q2,qf⟩:=MP.o wp XP;have⟨z,z0,z1,z2,zo⟩:=GK.o wp XP 1 (GT xb K p10) d9;have HZ:=I z;have Qu:=I zo;clear z zo;go_wp2;refine GE (v:=.agg #[U 1,GT xb K p10,d9]) (by simp[results,xy,go_sem,z0,z1,z2]) rfl ⟨⟨_,_,_,_,_,_,by rw[HC.o],λ_=>(NA.mono (l8 adP.size)).keep λk hk=>Qu.o k (by have:=(NA.lt k hk).1;have:=adP.size;omega)⟩,HZ⟩
 have HC:=I (show fi true g ⟨rs,rX,rY,rr,(FR,Fz),rp⟩=3 by unfold fi;rw[f8 j9,i7 hs]);have KD:(rs != 1)=true:=by simp[hs]
 have X4':=X4.o;have⟨q0,q1,q2,qf⟩:=MP.o w4 X4';have⟨z,z0,z1,z2,zo⟩:=GK.o w4 X4' 3 d9 (d9);have qq0:=@xy;exact SG
end
section
variable{n:Nat}{l:l9}
theorem pS{f g:Nat->Rat}:∀{m},(∀k,k<m->f k<=g k)->B5 f m<=B5 g m
 | 0,_=>Rat.le_refl
 | m+1,h=>by
   have h1:=pS (m:=m) (λk hk=>h k O);have h2:=h m O;simp only[B5];grind
theorem uM{f:Nat->Rat}:∀{m},(∀k,k<m->0<=f k)->0<=B5 f m
 | 0,_=>Rat.le_refl
 | m+1,h=>by
   have h1:=uM (m:=m) (λk hk=>h k O);have h2:=h m O;simp only[B5];grind
theorem mz(l:o7)(j:Nat)(G:j<Lp l):B8 (aI l) j=((l[j]?.getD 0:Int):Rat):=by
 unfold B8;rw[pC G,fF]
def OK(A:o4)(i j:Nat):Int:=(A[i]?.getD [])[j]?.getD 0
structure TY(A:o4)(B:o7)(C:o3)(r:I'):Prop where
 xl:r.X.length=C.length
 yl:r.Y.length=A.length
 bl:B.length=A.length
 x0:∀j,j<C.length->0<=B8 r.X j
 row:∀i,i<A.length->B5 (λj=>(OK A i j:Rat)*B8 r.X j) C.length=((B[i]?.getD 0:Int):Rat)
 Fm:∀j,j<C.length->B5 (λi=>B8 r.Y i*(OK A i j:Rat)) A.length<=B8 C j
 cx:val r.value=B5 (λj=>B8 C j*B8 r.X j) C.length
 yb:val r.value=B5 (λi=>B8 r.Y i*((B[i]?.getD 0:Int):Rat)) A.length
theorem Jn{A:o4}{B:o7}{C:o3}(ok:FT A B C=true){r:I'}(hc:aQ az A B C r=true)(hs:r.status=1):TY A B C r:=by
 have⟨h1,h2,h3,h4,h5,h6⟩:=hU ok;unfold aQ at hc;rw[i7 hs]at hc;have⟨Z,hc⟩:=fg hc;have⟨hy,hc⟩:=fg hc;have⟨hb,hm⟩:=fg hc;unfold eQ at Z;have⟨Wa,Z⟩:=fg Z;have⟨J4,hg⟩:=fg Z;have Wa:=nR Wa;have Oz:=nR hy;have H:∀j,j<Lp r.X->A5 (r.X[j]?.getD (0,0))=true/\0<=(r.X[j]?.getD (0,0)).1:=by
  intro j hj;have:=fp.1 J4 (r.X[j]) (cP hj);have⟨a,b⟩:=fg this;rw[In hj,NE];exact⟨a,nR b⟩
 unfold ku at hm;cases e1:Fs C r.X with
 | none=>rw[e1]at hm;cases hm
 | some x =>
   cases e2:Fs r.Y (aI B)with
   | none=>rw[e1,e2]at hm;cases hm
   | some y =>
     rw[e1,e2]at hm;have⟨FI,G⟩:=fg hm;have FI:=nR FI;have K:=nR G;obtain⟨d1,_,_,d4⟩:=eH e1;obtain⟨f1,_,_,f4⟩:=eH e2;refine⟨Wa,by rw[Oz,h3],h3,λj hj=>(jd (H j O).1).1 (H j O).2,λi hi=>?_,λj hj=>?_,?_,?_⟩
     ·have:=nR (fp.1 hg i (nM.2 hi));obtain⟨k1,_,_,k4⟩:=eH this;rw[fZ]at k1 k4;rw[fF]at k4;rw[k4,k1,Wa];exact bX λj hj=>by rw[mz _ _ O];rfl
     ·have:=fp.1 hb j (nM.2 hj);unfold az at this;cases e3:Fs r.Y (aI (FV A j))with
      | none=>rw[e3]at this;cases this
      | some v =>
        rw[e3]at this;have⟨s1,s2⟩:=fg this;have⟨g1,g2,g3,g4⟩:=pW s1;have UO:=(jd g3).1 (nR s2);obtain⟨k1,_,_,k4⟩:=eH e3;have K6:Lp (FV A j)=Lp A:=by unfold FV;simp
        rw[fZ,K6]at k1;have e4:B5 (λi=>B8 r.Y i*(OK A i j:Rat)) (Lp A)=val v:=by
         rw[k4,k1];exact bX λi hi=>by rw[mz _ _ (by rw[K6];exact hi),Al _ _ _ hi];rfl
        rw[e4];show val v<=val (C[j]?.getD (0,0))
        grind
     ·rw[<-K,d4]
     rw[<-K,FI,f4,f1,fZ,h3];exact bX λi hi=>by rw[mz _ _ O]
theorem qL{N i j:Nat}(hi:i<n)(hi5:i<5)(G:j<N-1):OK (dQ n N) i j=Fv (M2 ((1+j:Nat):Int) i):=by
 unfold OK dQ Gk;rw[sr,Pp hi,tv,NE];unfold D8 Fx;rw[sr,sr,Pp G];simp only[tv,NE];rw[dG _ _ O O]
 norm_cast
theorem wT(b:Bool):((Fv b:Int):Rat)=if b=true then 1 else 0:=by cases b<;>rfl
theorem gS(c:Rat)(f:Nat->Rat):∀m,B5 (λk=>c*f k) m=c*B5 f m
 | 0=>by simp only[B5];grind
 | m+1=>by simp only[B5];rw[gS c f m];grind
theorem mj(f:Nat->Nat->Rat)(m:Nat):∀n,B5 (λj=>B5 (λi=>f i j) m) n=B5 (λi=>B5 (λj=>f i j) n) m
 | 0=>by
   simp only[B5];exact(fR λ_ _=>rfl).symm
 | n+1=>by
   simp only[B5];rw[mj f m n];have:=lv (λi=>B5 (λj=>f i j) n) (λi=>f i n) 1 m;simp only[Rat.one_mul]at this;rw[this]
structure IF(w:J)(a:o6)(n cap:Nat)(l:l9):Prop where
 hlen:l.length=n
 y7:n<=cap
 y8:cap<=9223372036854775807
 cell:∀k,k<n->∃b off,a=some (IM b off)/\∀k,k<n->w.cell? (IM b (off+k*3))=some (U (l[k]?.getD (0,0,0)).1)/\w.cell? (IM b (off+k*3+1))=some (U (l[k]?.getD (0,0,0)).2.1)/\w.cell? (IM b (off+k*3+2))=some (U (l[k]?.getD (0,0,0)).2.2)
theorem IF.ath{w:J}{a:o6}{n cap:Nat}{l:l9}(h:IF w a n cap l):n<=cap/\cap<=9223372036854775807:=⟨h.y7,h.y8⟩
theorem IF.ext{w w':J}{a:o6}{cap:Nat}(h:IF w a n cap l)(hx:D4 w w'):IF w' a n cap l :=
 ⟨h.hlen,h.y7,h.y8,λk G=>let⟨b,off,e,hc⟩:=h.cell k G;⟨b,off,e,λk G=>⟨hx.o9 (hc k G).1,hx.o9 (hc k G).2.1,hx.o9 (hc k G).2.2⟩⟩⟩
theorem IF.at{w:J}{a:o6}{cap:Nat}(h:IF w a n cap l){k:Nat}(G:k<n):
 ∃b off x y z,a=some (IM b off)/\l[k]?.getD (0,0,0)=(x,y,z)/\w.cell? (IM b (off+k*3))=some (U x)/\w.cell? (IM b (off+k*3+1))=some (U y)/\w.cell? (IM b (off+k*3+2))=some (U z) :=
 let⟨b,off,e,hc⟩:=h.cell k G;⟨b,off,_,_,_,e,rfl,(hc k G).1,(hc k G).2.1,(hc k G).2.2⟩
theorem kF{k:Nat}(h:k<Lp l):l.take (k+1)=l.take k++[l[k]?.getD (0,0,0)]:=by
 rw[tn h];simp[h]
def wb(p:Int×Int×Int):List atY:=[U p.1,U p.2.1,U p.2.2]
def Z2(l:l9):Array atY:=(l.flatMap wb).toArray
theorem Tk:∀(l:l9) (k:Nat),k<Lp l->(l.flatMap wb)[k*3]?=some (U (l[k]?.getD (0,0,0)).1)/\(l.flatMap wb)[k*3+1]?=some (U (l[k]?.getD (0,0,0)).2.1)/\(l.flatMap wb)[k*3+2]?=some (U (l[k]?.getD (0,0,0)).2.2)
 | [],k,h=>absurd h j9
 | p::l,0,_=>by simp[wb]
 | p::l,k+1,h=>by
   have:=Tk l k ZN;rw[show(k+1)*3=k*3+1+1+1 by omega]
   simpa[wb]using this
theorem Z3:∀(l:l9) (k:Nat) (x y z:Int),k<Lp l->(((l.flatMap wb).set (k*3) (U x)).set (k*3+1) (U y)).set (k*3+2) (U z)=(l.set k (x,y,z)).flatMap wb
 | [],k,_,_,_,h=>absurd h j9
 | p::l,0,_,_,_,_=>by simp[wb]
 | p::l,k+1,x,y,z,h=>by
   have:=Z3 l k x y z ZN;rw[show(k+1)*3=k*3+1+1+1 by omega]
   simpa[wb]using this
def L9(w:J)(b:Nat)(t:TypeId)(l:l9):Prop:=w.heap[b]?=some (SH (Z2 l) t (0,0))
end
section
variable{w:J}
def S'(h:σ:=by
 have⟨hb,Zy⟩:=j7 (Ia ((j:Int)+1) (k:Int));have Uu:=I (λw'=>bE ((j:Int)+1) (k:Int) w' O);simp only[<-Zy]at Uu;have Qj:=I (λw'=>fN hb w');have H7:=I (lW (l:=L) (j:=j) (k:=k) (b:=hb) E9 (by rw[Jc.o j O];exact Zy.symm));have GN:=I (show(D8 (L.take j) k).length=j by simp only[D8,b7,jt];rw[Gq.o];omega);have⟨bt,Pf⟩:=j7 (Fv hb);rw[<-Pf]at H7;simp only[<-Pf]at Qj;clear Zy Pf
 go_wp2_with (first
  | (go_at_call 173;refine(Uu _).mono ?_;rintro e w4 ⟨rfl,rfl⟩)
  | (go_at_call 249;refine(Qj _).mono ?_;rintro e w4 ⟨rfl,rfl⟩)
  | (at_builtin;refine Wp bt HO C5 VM λa5 n5 c5 w5 JU X5 Fj=>?_))
 refine sq ?_;exact⟨j+1,a5,n5,c5,I (l8 HJ.o),by go_num,rfl,I U5,X5⟩
 ):σ:=h
def Wr(h:σ:=by
 rw[If _ _ _ _ (show j≠w.heap.size+1 by omega),If _ _ _ _ (show j≠w.heap.size+1 by omega),If _ _ _ _ (show j≠w.heap.size+1 by omega)]
 ):σ:=h
def MZ(h:σ:=by
 rw[hv,In (by rw[HVL.o];exact hlt),NE];exact J9.o _ (cP _)
 ):σ:=h
theorem yL{p:Int}{a:o6}{n cap:Nat}{V:o7}(h:d6 w a n cap V):
 Calls prog 185 #[Id p a n cap] w λe w'=>Y2 w' e (dQ p.toNat n) (ed p.toNat) (aY V) (ak p V)/\D4 w w':=by
 have⟨W,hW⟩:=j7 ((w.alloc (SH #[U p,FB a n cap] 31)).alloc (SH #[d9,d9,d9] 124));refine kv (show W.heap.size=w.heap.size+2 by rw[hW];simp) (show D4 w W by rw[hW];exact ZL.trans ZL) (show W.cell? (IM w 1)=some (FB a n cap)by rw[hW];simp) (show W.cell? (IM w 0)=some (U p)by rw[hW];simp) (show W.heap[w.heap.size+1]?=some (SH #[d9,d9,d9] 124 (0,0))by rw[hW];exact LE j9) λFp B4 P9 OR Uj=>?_;have⟨WG,Tl⟩:=j7 (w.alloc (SH #[U p,FB a n cap] 31));refine Op (show D4 WG W by rw[hW,Tl];exact ZL) (show WG.heap.size=w.heap.size+1 by rw[Tl];simp) (show WG.cell? (IM w 0)=some (U p)by rw[Tl];simp) (show WG.cell? (IM w 1)=some (FB a n cap)by rw[Tl];simp) λHXG Oq HG0 Uw=>?_;clear Tl;have HVL:=I h.hlen;have⟨PI,PH⟩:=h.ath;have Kx:=I (h.ext B4);have HC:=I (bY (p:=p) (h.ext B4));have LS:(w.heap.size+1)<W.heap.size:=by rw[Fp.o];omega
 have E6:=I (λ(w':J) (hx:D4 W w')=>(hx.block _ LS).trans Uj);cases hg:ak p V
 ·have qq0:=@results185;exact ZA
 obtain⟨q,rfl,h1,h5,hlen,_,Ha⟩:=ap hg;have hq:=bp q h5;have IU:n<=32:=by rw[<-HVL.o,hlen];omega
 have Ht:1<=n:=by rw[<-HVL.o,hlen];omega
 have J9:=I Ha;have HCL:=I (show(aY V).length=n-1 by unfold aY;simp[HVL.o]);rw[hg,hW]at HC;go_in
 go_wp2_with rfl;refine HC.mono ?_;rw[<-hW];clear hW;rintro e w1 ⟨rfl,B0⟩;have J2:=B0.size;rw[Fp.o]at J2;have A6:=I B0;have Pt:=I (D5.new (w:=w1) (base:=w.heap.size+2) J2);have⟨g,K3⟩:=j7 w1.heap.size;have⟨E,hE⟩:=j7 (w1.alloc (SH #[d9,d9,d9] 124));have Sa:=I (show D4 W E by rw[hE];exact B0.trans ZL);rw[<-K3,<-hE]at Pt;go_upto_region 4 with rfl;rw[<-hE,<-K3];clear hE K3;go_wp2
 go_loopg [5] (n-1) (λgk ii wr=>∃(k:Nat) (vc:atY),e9 (gk+k=n-1)/\ii=U ((k+1:Nat):Int)/\e9 (D5 wr (w+2) g d9 (d9) vc [] [] [] ((aY V).take k))/\e9 (D4 W wr))
 ·exact⟨0,_,I O,rfl,Pt,Sa⟩
 rename Nat=>g1;rename J=>A1;obtain⟨k,vc,HK,rfl,GD,HX⟩:=hrel;have hsz:=HX.size;rw[Fp.o]at hsz;have T8:=HX.o9 P9.o;by_cases hlt:k+1<n
 ·have⟨eb,D6,Kl,GI⟩:=(Kx.ext HX).at hlt;subst Kl;have⟨v,hv⟩:=j7 (V[k+1]?.getD 0);have Ha:-500<=v/\v<=500:=by
   exact MZ
  rw[<-hv]at GI;have HV0:=I (show W.cell? ⟨eb,D6+(k+1),none⟩=some (U v)by
   have⟨eb',Z9,PM,he'⟩:=Kx.at hlt;obtain⟨rfl,rfl⟩:=er PM;clear PM;rw[hv];exact he')
  have H7:=I (mU HVL.o hlt hv.symm);have Q':=dc (-v);have MI:(0:Int)<=((k+1:Nat):Int):=O;have Ij:((k+1:Nat):Int)<(n:Int):=O;have Wi:=qj (((k+1:Nat):Int)+1) ((k+1+1:Nat):Int);have r7:(0:Int)<=(k:Int)+1:=O;have Lm:(k:Int)+1<(n:Int):=O;have hk4:((k:Int)+1).toNat=k+1:=O;have Qw:=I (show((aY V).take k).length=k by rw[jt,HCL.o];omega);have t2:=GD.c2;clear hv;have r8:=I λw' (h:D4 A1 w')=>TX (h.o9 t2) (TX (h.o9 T8) (TX (h.o9 GI) (HX.trans h)));have G:=D4.drew A1;go_upto_region 7 with rfl;refine cj (M:=[12]) (S:=λw'=>w'.cell? (IM g 2)=some vc/\w'.cell? (IM w 1)=some (FB (some (IM eb D6)) n cap)/\w'.cell? ⟨eb,D6+(k+1),none⟩=some (U v)/\D4 W w') k8 ?_;have r9:=r8.o _ G;have⟨wd,hwd⟩:=j7 A1.drew;rw[<-hwd]at G r9;rw[<-hwd];clear hwd;have Te:=G.size;refine Lj ⟨?_⟩;refine lp 7 ?_;refine Im 8 λK hK=>?_
  go_simp;go_at_call 171;refine i6 (cV _ _) λw3 C0=>?_;have G:D4 A1 w3:=G.trans C0;have LR:=G.size;go_wp2_with rfl;refine KL (r8 _ G) λr9=>?_
  refine Im 9 λK hK=>?_;go_simp;refine hK.out _ _ (λ_=>r8.o _ (G.trans ZL)) ?_
  try simp only[Act.put,sA,sB,sC]
  refine Im 10 λK hK=>?_;refine dw _ _ l7 (w+2) vc _ l7 ((GD.c.ext G).ext ZL) _ 1 _ [(-v,1)] l7 (z6 rfl) o2 t8 ?_;intro v6 w6 ho K4 r';obtain⟨a6,n6,q6,rfl,Jy⟩:=ho.var;have Ps:=I (GD.UC (G.trans ZL) K4 ho);have R3:=GD.adz (G.trans ZL) K4;have c26:=D5.Hw R3;have cf6:=D5.Hv R3;have NQ:D4 W w6:=aj ((HX.trans G).trans ZL) K4 (λj hj=>by rw[Fp.o];exact(GD.c.lt j hj).1);refine KL (eN c26 (eN (NQ.o9 P9) (eN (NQ.o9 HV0) NQ))) λr9=>?_;refine lp 11 ?_;refine Ql 12 ?_;refine cU k8 ?_ _;have Kq:=I (NQ.setCell (p:=(IM g 2)) Ld (FB a6 n6 q6));have⟨W9,J6⟩:=j7 (w6.setCell (IM g 2) (FB a6 n6 q6));rw[<-J6]at Ps Kq;go_upto_region 6 with rfl;rw[<-J6];clear J6;go_wp2_with rfl
  refine gy ?_;exact⟨k+1,_,I (l8 HK.o),by go_num,I (by rw[<-H7.o];exact Ps),Kq⟩
 have hT:(aY V).take k=aY V:=aP (by rw[HCL.o];omega);rw[hT]at GD;have agn:=HX.o9 OR.o;obtain⟨aC,nC,cC,rfl,HNC⟩:=GD.c.var;have F4:¬((k:Int)+1)<(n:Int):=O;have⟨L,hL⟩:=j7 (Fx 1 (n-1));have Gq:=I (show Lp L=n-1 by rw[hL];simp[Fx]);have Jc:=I (λ(j:Nat) (hj:j<n-1)=>show L[j]?.getD 0=(j:Int)+1 by
  rw[hL,In (by simp[Fx];exact hj)]
  simp[Fx];omega)
 have HLE:=I hL;clear hL;go_wp2
 go_loopg [6] q (λgk ii wr=>∃(k:Nat) (va vb:atY) (vs:List atY),e9 (gk+k=q)/\ii=U k/\e9 (D5 wr (w+2) g va vb (FB aC nC cC) vs (Gk k L) (List.replicate k 1) (aY V))/\e9 (D4 W wr))
 ·exact⟨0,_,_,[],I O,rfl,GD,HX⟩
 rename Nat=>g2;rename J=>wr2;obtain⟨k,va,vb,vs,Q3,rfl,FF,C7⟩:=hrel;have J0:=C7.size;rw[Fp.o]at J0;have NJ:=C7.o9 OR.o;have OD:=C7.o9 P9.o;by_cases Vy:k<q
 ·have HO1:=I (y9.Ft wr2 wr2 _ rfl (m9 _));have hkqi:=SW k q;go_wp2
  go_loopg [7,8] (n-1) (λgk row ii wr=>∃(j:Nat) (a2:o6) (n2 p2:Nat),e9 (gk+j=n-1)/\ii=U ((j+1:Nat):Int)/\row=FB a2 n2 p2/\e9 (y9 wr wr2 (FB a2 n2 p2) (D8 (L.take j) k))/\e9 (D4 wr2 wr))
  ·exact I1
  obtain⟨j,a2,n2,p2,HJ,rfl,rfl,HO,C5⟩:=hrel;have MC:=C5.size;have Qo:=C5.o9 OD;by_cases Hn:j+1<n
  ·have hjw:=qj (((j+1:Nat):Int)+1) ((j+1+1:Nat):Int);have agb:(j:Int)+1<(n:Int):=O;exact S'
  have agb:¬((j:Int)+1)<(n:Int):=O;have hTL:L.take j=L:=aP E9;rw[hTL]at HO;have HMS:=I (vw k L);have HVL:=I (show Lp vs=k by rw[FF.rows.len];simp[Gk]);have Z:=I (FF.ext C5);have t0:=Z.c0;have bf:=Z.free;go_upto_region 17 with(first
   | (at_builtin;refine fd rfl _ _ rfl (w+2) va vs rfl (Z.a.ext ZL) _ _ 1 rfl E5 rfl YY t8 ?_;intro v6 w6 ho hg r';have Qf:=I (FF.M8 (C5.trans ZL) (HO.ext ZL) O hg ho r');have Oj:=Z.QU ZL hg;have hc6:=D5.G9 Oj;have hf6:=D5.Hv Oj;have X6:=I ((((C7.trans C5).trans ZL).grown hg (λj hj=>by rw[Fp.o];exact(FF.a.lt j hj).1)).store (b:=g) 0 Oe v6);obtain⟨a6,n6,p6,rfl,Jy⟩:=ho.var))
  have⟨W6,hW6⟩:=j7 (w6.setCell (IM g 0) (FB a6 n6 p6));rw[<-hW6]at Qf X6;rw[<-hW6];clear hW6;have t1:=Qf.c1;have bf:=Qf.free;have hgl6:=Qf.lt;have Hg:e9 (D4 W W6):=X6;have hs6:=Hg.size;rw[Fp.o]at hs6
  go_wp2_with (first
   | (at_builtin;refine bK rfl _ _ rfl (w+2) vb _ rfl (Qf.b.ext ZL) _ 1 _ [1] rfl (G3 j9) t8 t8 ?_;intro v9 w9 ho It r';have Mn:=I (Qf.pushB ZL It ho r');have Gu:=Qf.QT ZL It;have c09:=D5.G8 Gu;have UY:=D5.Hv Gu;have X9:=I (((Hg.trans ZL).grown It (λj hj=>by rw[Fp.o];exact(Qf.b.lt j hj).1)).store (b:=g) 1 Oe v9);obtain⟨a9,n9,q9,rfl,Qe⟩:=ho.var))
  refine Mx ?_;exact⟨k+1,_,_,_,I (l8 Q3.o),by go_num,I (by have h1:=Mn.o;rw[HMS.o,<-WR]at h1;exact h1),X9⟩
 have ac1:q=k:=l8 Q3.o;have hnk:¬(k:Int)<(q:Int):=O;subst ac1;obtain⟨aA,nA,cA,rfl,U8⟩:=FF.a.var;obtain⟨aB,nB,cB,rfl,VT⟩:=FF.b.var;have t0:=FF.c0;have t1:=FF.c1;have t2:=FF.c2;have JC:=FF.hg;have J3:=E6.o wr2 C7.o;have FH:=D5.G9 J3;have FL:=D5.G8 J3;have Hs:=D5.Hw J3;have JR:=D5.Hv J3;have Zw:∀j,w.heap.size+2<=j->(((wr2.setCell (IM (w+1) 0) (FB aA nA cA)).setCell (IM (w+1) 1) (FB aB nB cB)).setCell (IM (w+1) 2) (FB aC nC cC)).heap[j]?=wr2.heap[j]?:=λj Ij=>by
  exact Wr
 go_wp2;refine GE (v:=.tuple #[JI aA nA cA aB nB cB aC nC cC,ato true]) (by simp[results,results185,go_sem,FH,FL,Hs]) rfl ⟨⟨aA,nA,cA,aB,nB,cB,aC,nC,cC,rfl,λ_=>⟨?_,?_,?_⟩⟩,(((B4.trans C7).store 0 O _).store 1 O _).store 2 O _⟩
 ·have h0:bZ wr2 (w+2) (FB aA nA cA) (Gk q L):=⟨vs,FF.a,FF.rows⟩;rw[HLE.o]at h0;exact bZ.Mg (h0.on _ λj h1 _=>Zw j h1)
 ·exact(FF.b.on _ λj h1 _=>Zw j h1).ints
 exact(FF.c.keep λj h1=>Zw j (FF.c.lt j h1).1).rats
theorem Ee{Y:o3}{k:Nat}(h:k<Lp Y):(Y.take k).map D2++[D2 (Y[k]?.getD (0,0))]=(Y.take (k+1)).map D2:=by rw[dO h,rN];rfl
theorem ke{w':J}{b:Nat}(h:w'.heap[b]?=w.heap[b]?)(o:Nat):w'.cell? (IM b o)=w.cell? (IM b o):=by simp only[World.cell?,h]
theorem CD{p:Int}{a:o6}{n cap:Nat}{V:o7}(h:d6 w a n cap V):
 Calls prog 104 #[Id p a n cap] w λe w'=>UQ w' w e (fJ (ak p V) (bu p V) (bH az (dQ p.toNat n) (ed p.toNat) (aY V))) (V4 (bu p V) (bH az (dQ p.toNat n) (ed p.toNat) (aY V)))/\D4 w w':=by
 have⟨W,hW⟩:=j7 ((w.alloc (SH #[.int .i64 p,FB a n cap] 31)).alloc (SH #[.int .i64 0,FB none 0 0,FB none 0 0] 92));have Oa:W.heap.size=w.heap.size+2:=by rw[hW];simp
 have hX:D4 w W:=by rw[hW];exact ZL.trans ZL
 refine kv (show W.heap[w.heap.size+1]?=some (SH #[.int .i64 0,FB none 0 0,FB none 0 0] 92 (0,0))by rw[hW];exact LE j9) (show W.cell? ⟨w,0,none⟩=some (.int .i64 p)by rw[hW];exact D4.o9 ZL j9) (show W.cell? ⟨w,1,none⟩=some (FB a n cap)by rw[hW];exact D4.o9 ZL j9) (h.ext hX) hX λE6 Kz K9 HI HX=>?_;have LH:=I (yL (p:=p) HI);have⟨g,Oh⟩:=j7 (bu p V);have⟨r,FH⟩:=j7 (bH az (dQ p.toNat n) (ed p.toNat) (aY V));have HG:=I Oh;have GV:=I FH;rw[<-Oh,<-FH];have GK:=I (λ(w':J) (hx:D4 W w') (code:Int) (x1 x2:atY)=>An (w:=w) ((hx.block _ O).trans E6) (HX.trans hx) (bq _) (.int .i64 code) x1 x2);have MP:=I (λ(w':J) (hx:D4 W w')=>fS ((hx.block _ O).trans E6));clear h hX Oh FH;cases hgo:ak p V
 ·rw[hgo]at LH;have HC:e9 (fJ false g r=0):=I (rfl);have qq0:=@o5;exact MF
 rw[hgo]at LH;have HSE:=I (Dl hgo (dQ p.toNat n) (ed p.toNat));obtain⟨q,Fw,I6,Lk,SI,_,Om⟩:=ap hgo;have JC:-500<=g/\g<=500:=by rw[HG.o,eW hgo];exact kT Om _
 have Gi:=I Fw;clear hgo SI Om Fw;go_in
 go_wp2_with rfl;rw[<-hW];refine LH.mono ?_;rintro e w1 ⟨⟨la,Mu,My,lb,Ms,Mx,lc,Mr,Mw,rfl,Qs⟩,hx⟩;unfold JI;have⟨w2,hw2⟩:=j7 (w1.alloc (bT la Mu My lb Ms Mx lc Mr Mw));have C9:D4 w1 w2:=by rw[hw2];exact ZL
 have X2:=I (hx.trans C9);have GG:=I (ma ((Qs rfl).ext C9));rw[<-HSE.o,<-GV.o]at GG;have PR:w2.heap[w1.heap.size]?=some (SH #[FB la Mu My,FB lb Ms Mx,FB lc Mr Mw] 124 (0,0)):=by rw[hw2];exact LE rfl
 have t0:=aw PR;have t1:=aJ PR;have t2:=aK PR;go_upto_region 2 with rfl;rw[<-hw2];clear hx C9 Qs hw2 hW PR;go_wp2_with rfl;refine GG.mono ?_
 have Hx:=I (λ(hs:r.status=1)=>show Lp r.Y=q/\A5 r.value=true/\∀k,k<Lp r.Y->A5 (r.Y[k]?.getD (0,0))=true by
  have:=fD (bound:=az) (A:=dQ p.toNat n) (B:=ed p.toNat) (C:=aY V) Rl;rw[<-GV.o]at this;refine⟨?_,this.2.2.2.2⟩;rw[this.2.2.2.1];unfold ed;rw[yl,Gi.o,eI])
 rintro e w3 ⟨⟨xa,xn,xc,ya,yn,yc,ra,rn,rc,rfl,LV⟩,C0⟩;have⟨w4,Hr⟩:=j7 (w3.alloc (de r xa xn xc ya yn yc ra rn rc));have E4:D4 w3 w4:=by rw[Hr];exact ZL
 refine Fn ((X2.trans C0).trans E4) (LV.here.ext E4) (show w4.heap[w3.heap.size]?=some (de r xa xn xc ya yn yc ra rn rc)by rw[Hr];exact LE rfl) λX4 GS FG=>?_;obtain⟨rs,rX,Z,rr,⟨FR,Fz⟩,rp⟩:=r;unfold JA;go_upto_region 5 with rfl;rw[<-Hr];clear LV C0 E4 Hr t0 t1 t2;generalize w3.heap.size=b5 at FG⊢;have⟨l0,l1,l2,l3,l4,l5,l6,lf⟩:=FN FG.o
 try simp only at l0 l1 l2 l3 l4 l5 l6
 have Lx:=I (λ(w':J) (hx:D4 W w')=>iY (p:=p) (HI.ext hx));simp only[<-HG.o]at Lx;have b0:=X4.o9 Kz.o;have b1:=X4.o9 K9.o;obtain⟨s1,s2,one,QM⟩:∃s1 s2 o,F6 (g,1) (FR,Fz)=((s1,s2),o):=⟨_,_,_,rfl⟩;have Hi:=I QM;have Nr:e9 (eO g ⟨rs,rX,Z,rr,(FR,Fz),rp⟩=((s1,s2),one)):=QM;clear QM;go_upto_region 5 with rfl
 go_cut [6,7] (λsx so wx=>∃g6:Nat,sx=ats (some ⟨g6,0,none⟩)/\so=ato one/\e9 (ai w4 wx g6 s1 s2))
 case first =>
  have r7:=D4.drew w4;have Fu:D4 w4 (w4.alloc (SH #[.int .i64 0,.int .i64 0] 80)).drew:=ZL.trans fl;have r8:=I (λ(w':J) (h:D4 w4 w')=>(an (h.o9 b0) (an (h.o9 b1) (an (h.o9 l4) (an (h.o9 l5) h)))))
  go_region_held3 (λw'=>w'.cell? ⟨w,0,none⟩=some (.int .i64 p)/\w'.cell? ⟨w,1,none⟩=some (FB a n cap)/\w'.cell? ⟨b5,4,none⟩=some (.int .i64 FR)/\w'.cell? ⟨b5,5,none⟩=some (.int .i64 Fz)/\D4 w4 w')
   (exact yg)
   (first
     | ((with_reducible refine(Lx.o _ (X4.o.trans BB)).mono ?_)
        rintro e w5 ⟨rfl,B7⟩
        try with_reducible first|have A7:=ai.grow A7 B7|have A7:=ai.Fk B7|have A7:=ai.Fq r7 B7
        try(have Ko:=A7.c0;have Kn:=A7.c1;have L4:=A7.free)
        have r7:D4 w4 w5:=TH;have G7:=r7.size)
     | ((with_reducible refine(cV _ _).mono ?_)
        rintro e w6 ⟨rfl,JZ⟩
        try with_reducible first|have A7:=ai.grow A7 JZ|have A7:=ai.Fk JZ|have A7:=ai.Fq r7 JZ
        try(have Ko:=A7.c0;have Kn:=A7.c1;have L4:=A7.free)
        have r7:D4 w4 w6:=ZT;have G7:=r7.size)
     | ((with_reducible refine(jr _ _ _ _ _).mono ?_)
        rw[Hi.o];rintro e w7 ⟨rfl,Gr⟩
        try with_reducible first|have A7:=ai.grow A7 Gr|have A7:=ai.Fk Gr|have A7:=ai.Fq r7 Gr
        try(have Ko:=A7.c0;have Kn:=A7.c1;have L4:=A7.free)
        have r7:D4 w4 w7:=Zg;have G7:=r7.size))
  all_goals(exact yx)
 obtain⟨g6,rfl,rfl,Ke⟩:=hcut;have XC:=X4.trans Ke.ext;refine Fn XC (Ke.ext.blk FG) (GS.y.ext Ke.ext) λLF Pv HYC=>?_;have e0:=Ke.c0;have e1:=Ke.c1;clear l0 l1 l2 l3 l4 l5 l6 lf b0 b1;have⟨l0,l1,l2,l3,l4,l5,l6,lf⟩:=FN Pv.o
 try simp only at l0 l1 l2 l3 l4 l5 l6
 by_cases hs:rs=1;rotate_left
 ·have HC:=I (show fJ true g ⟨rs,rX,Z,rr,(FR,Fz),rp⟩=3 by unfold fJ;rw[f8 j9,i7 hs]);have KD:(rs != 1)=true:=by simp[hs]
  have⟨q0,q1,q2,qf⟩:=MP.o wc XC;have⟨z,z0,z1,z2,zo⟩:=GK.o wc XC 3 (FB none 0 0) (FB none 0 0);have qq0:=@o5;exact SG
 have⟨Oz,NF,Lg⟩:=Hx.o hs
 try simp only at Oz NF Lg
 subst hs;have HYV:=I Lg;have OQ:=I Oz;clear NF Lg Oz;cases one
 ·have HC:=I (show fJ true g ⟨1,rX,Z,rr,(FR,Fz),rp⟩=3 by unfold fJ;rw[f8 j9,f8 j9,Nr.o];rfl);have⟨q0,q1,q2,qf⟩:=MP.o wc XC;have⟨z,z0,z1,z2,zo⟩:=GK.o wc XC 3 (FB none 0 0) (FB none 0 0);have qq0:=@o5;exact SG
 by_cases Iy:s1<0
 ·have HC:=I (show fJ true g ⟨1,rX,Z,rr,(FR,Fz),rp⟩=2 by unfold fJ;rw[f8 j9,f8 j9,Nr.o];simp[Iy]);have⟨q0,q1,q2,qf⟩:=MP.o wc XC;have⟨z,z0,z1,z2,zo⟩:=GK.o wc XC 2 (FB none 0 0) (FB xa xn xc);have qq0:=@o5;exact ey
 have Nb:yn=q:=by have h1:=HYC.hlen;have h2:=OQ.o;(try simp only at h1);omega
 have HYN:=I Nb;have hyn5:yn<=5:=O;have hyc:=HYC.y7;have hym:=HYC.y8;clear Nb;have⟨w8,PF⟩:=j7 (wc.alloc (SH #[.int .i64 1,FB none 0 0,FB none 0 0] 92));have UJ:D4 wc w8:=by rw[PF];exact ZL
 have Pw:=I (show w8.heap[wc.heap.size]?=some (SH #[.int .i64 1,FB none 0 0,FB none 0 0] 92 (0,0))by rw[PF];exact LE rfl);have Un:=I (show w8.heap.size=wc.heap.size+1 by rw[PF];simp);go_upto_region 11 with rfl;rw[<-PF];clear PF;have hs8:=UJ.size;have MX:=I UJ;have⟨b8,hb8⟩:=j7 wc.heap.size;have S0:=I hb8;rw[<-hb8]at Pw Un;rw[<-hb8];clear UJ hb8;go_wp2
 go_loopg [9] yn (λgk ii wr=>∃(k:Nat) (a1:o6) (n1 p1:Nat),e9 (gk+k=yn)/\ii=.int .i64 (k:Int)/\e9 (ZM wr (b8+1) (FB a1 n1 p1) ((Z.take k).map D2))/\e9 (wr.heap[b8]?=some (SH #[.int .i64 1,FB a1 n1 p1,FB none 0 0] 92 (0,0)))/\e9 (D4 wc wr)/\e9 (b8+1<=wr.heap.size))
 ·exact⟨0,none,0,0,I O,rfl,I og,Pw,MX,I (by rw[Un.o];exact m9 _)⟩
 rename Nat=>g1;rename J=>wr;obtain⟨k,a1,n1,p1,HK,rfl,HO,Lc,IX,HSR⟩:=hrel;have Qi:=I (IX.blk Pv);clear l0 l1 l2 l3 l4 l5 l6 lf;have⟨l0,l1,l2,l3,l4,l5,l6,lf⟩:=FN Qi.o
 try simp only at l0 l1 l2 l3 l4 l5 l6
 have⟨m0,m1,m2,mf⟩:=fS Lc.o;by_cases hlt:k<yn
 ·obtain⟨yb,yo,y1,y2,rfl,hye,F7,Mz⟩:=(HYC.ext IX).at hlt;have hkY:k<Lp Z:=by rw[OQ.o,<-HYN.o];exact hlt
  have O9:=aV (HYV k hkY)
  try simp only at hye
  rw[hye]at O9
  try simp only at O9
  have H7:=I (Ee hkY);rw[hye]at H7;have Qw:=I (show((Z.take k).map D2).length=k by rw[b7,jt];omega);have C4:=D4.drew wr;have r8:=I λw' (h:D4 wr w')=>TX (h.o9 m1) (TX (h.o9 l2) (TX (h.o9 F7) (h.o9 Mz)));have hb5n:b5≠b8:=by have:=IO Pv.o;have:=S0.o;omega
  have HYB:=I (show yb<b8 by
   obtain⟨u1,u2,u3,u4,hu,Tc,Y8,_⟩:=HYC.at hlt;simp only[Pi,gl,gi]at hu;have h1:=vM _ _ Y8;have:=S0.o;simp only at h1;omega)
  have hhsr:=HSR.o;clear hye;go_wp2_with rfl;refine cj (M:=[11]) (S:=λw'=>w'.cell? ⟨b8,1,none⟩=some (FB a1 n1 p1)/\w'.cell? ⟨b5,2,none⟩=some (FB (some ⟨yb,yo,none⟩) yn yc)/\w'.cell? ⟨yb,yo+k*2,none⟩=some (.int .i64 y1)/\w'.cell? ⟨yb,yo+k*2+1,none⟩=some (.int .i64 y2)) k8 ?_;have r9:=r8.o _ C4;have⟨wd,hwd⟩:=j7 wr.drew;rw[<-hwd]at C4 r9;rw[<-hwd];clear hwd;have Te:=C4.size;refine Lj ⟨?_⟩;refine Im 7 λK hK=>?_;go_simp;go_at_call 180;refine i6 (eZ y1 y2 _ O O) λw9 hx9=>?_;have C4:D4 wr w9:=C4.trans hx9;have hs9:=C4.size;go_wp2_with rfl;refine KL (r8 _ C4) λr9=>?_
  refine Im 8 λK hK=>?_;go_simp;refine hK.out _ _ (λ_=>r8.o _ (C4.trans ZL)) ?_;clear hK K
  try simp only[Act.put,sA,sB,sC]
  refine Im 9 λK hK=>?_;refine dw _ _ l7 (b8+1) (FB a1 n1 p1) _ l7 ((HO.ext C4).ext ZL) _ 1 _ [(-y1,y2)] l7 (z6 rfl) o2 t8 ?_;intro v6 O6 ho hg r';obtain⟨a6,n6,p6,rfl,Jy⟩:=ho.var;have Gp:=I ho;have agv:=(hg.block b8 (by have:=HSR.o;simp;omega) (λe=>by have:=(HO.lt b8 e.symm).1;omega)).trans ((C4.trans ZL).blk Lc);have⟨u0,u1,u2,ufq⟩:=fS agv;have RM:=I (aj (IX.trans (C4.trans ZL)) hg (λj hj=>by have:=(HO.lt j hj).1;have:=S0.o;omega));have afW:=hg.size;have hcl2:=(hg.block b5 (by have:=IO Qi.o;simp;omega) (λe=>by have:=(HO.lt b5 e.symm).1;have:=IO Pv.o;have:=S0.o;omega)).trans ((C4.trans ZL).blk Qi);have agq:=(FN hcl2).2.2.1;have hyq:=RM.o;have Wi:=C4.trans (D4.alloc w9 (SH #[.int .i64 (-y1),.int .i64 y2] 80));have hyg:=hg.block yb (by have:=HYB.o;have:=HSR.o;have:=Wi.size;omega) (λe=>by have:=(HO.lt yb e.symm).1;have:=HYB.o;omega);clear ho hg r';refine hK.out _ _ (λ_=>eN u1 (eN agq (eN ((ke hyg _).trans (Wi.o9 F7)) ((ke hyg _).trans (Wi.o9 Mz))))) ?_;have r9:=eN u1 (eN agq (eN ((ke hyg _).trans (Wi.o9 F7)) ((ke hyg _).trans (Wi.o9 Mz))));clear hK K
  try simp only[Act.put,sA,sB,sC]
  refine lp 10 ?_;refine Ql 11 ?_;refine cU k8 ?_ _;refine Fn (((ZM.on Gp).set (a:=⟨b8,1,none⟩) (by show b8<b8+1;omega) (FB a6 n6 p6)).here) (show(O6.setCell ⟨b8,1,none⟩ (FB a6 n6 p6)).heap[b8]?=some (SH #[.int .i64 1,FB a6 n6 p6,FB none 0 0] 92 (0,0))from aM O6 b8 1 _ _ _ agv) (RM.setCell (p:=⟨b8,1,none⟩) (by show wc.heap.size<=b8;have:=S0.o;omega) (FB a6 n6 p6)) λVS RW VM=>?_;have⟨Q9,TP⟩:=j7 (O6.setCell ⟨b8,1,none⟩ (FB a6 n6 p6));rw[<-TP]at VS RW VM;have QZ:=I (show b8+1<=Q9.heap.size by have:=IO RW.o;omega);go_upto_region 13 with rfl;rw[<-TP];clear TP r9 C4 agv u0 u1 u2 ufq hcl2 agq hyq Wi hyg l0 l1 l2 l3 l4 l5 l6 lf m0 m1 m2 mf;go_wp2_with rfl
  refine gy ?_;exact⟨k+1,a6,n6,p6,I (l8 HK.o),by go_num,I (by rw[<-H7.o];exact VS),RW,VM,QZ⟩
 have E':k=yn:=l8 HK.o;subst E';have hT:Z.take k=Z:=aP (by rw[OQ.o,<-HYN.o];exact m9 _);rw[hT]at HO;have Ht:n1=q:=by rw[<-HO.rats.hlen,b7];exact OQ
 have MG:Lp (Z.map D2)=q:=by rw[b7];exact OQ
 obtain⟨u,hu⟩:∃u:Nat,u+1=q:=⟨q-1,by omega⟩;have Nv:u<n1:=O;have HPU:=I (show p-1=(u:Int)by have:=Gi.o;omega);have hwu:IntKind.i64.wrap (p-1)=(u:Int):=by rw[HPU.o,j0];have:=Gi.o;omega
 have Li:=aE u;have hul:=SW u n1;have⟨H,VF,JC,ZA,LW⟩:=HO.block Nv;subst VF;have⟨y0,y1,x1,x2,hyq,Vo,TM,UI⟩:=HO.rats.at Nv;simp only[Pi,gl,gi]at hyq;obtain⟨rfl,rfl⟩:=hyq;rw[fs]at TM UI;obtain⟨k1,k2,two,hls⟩:∃l1 l2 o,F6 (x1,x2) (s1,s2)=((l1,l2),o):=⟨_,_,_,rfl⟩;have HLS:=I hls;have Jc:=I (show ko g ⟨1,rX,Z,rr,(FR,Fz),rp⟩=((k1,k2),two)by
  unfold ko eO Rr;simp only;rw[MG,show q-1=u by omega,Vo,Hi.o,hls])
 have Q1:=I (show V4 g ⟨1,rX,Z,rr,(FR,Fz),rp⟩=(Z.map D2).set u (k1,k2)by
  unfold V4 Rr;simp only;rw[Jc.o,MG,show q-1=u by omega])
 have HUL:=I (show u<Lp (Z.map D2) by rw[MG];omega)
 have Q5:=I (show fJ true g ⟨1,rX,Z,rr,(FR,Fz),rp⟩=if two=true then 1 else 3 by
  unfold fJ;rw[f8 j9,f8 j9,Nr.o,Jc.o];simp;intro h;omega)
 have e0':=IX.o9 e0;have Wo:=IX.o9 e1;have p0:=(LF.trans IX).o9 Kz.o;have hc10:=HO.rats.y7;have hm10:=HO.rats.y8;have hsr:=HSR.o;have hwcs:=IX.size;clear hls Vo hu MG Ht hT;go_upto_region 15 with rfl
 go_cut [10,11] (λsx so wx=>∃gb:Nat,sx=ats (some ⟨gb,0,none⟩)/\so=ato two/\e9 (ai wr wx gb k1 k2))
 case first =>
  have r7:=D4.drew wr;have Fu:D4 wr (wr.alloc (SH #[.int .i64 0,.int .i64 0] 80)).drew:=ZL.trans fl;have r8:=I (λ(w':J) (h:D4 wr w')=>(an (h.o9 TM) (an (h.o9 UI) (an (h.o9 m1) (an (h.o9 p0) (an (h.o9 e0') (an (h.o9 Wo) h)))))))
  go_region_held3 (λw'=>w'.cell? ⟨H,u*2,none⟩=some (.int .i64 x1)/\w'.cell? ⟨H,u*2+1,none⟩=some (.int .i64 x2)/\w'.cell? ⟨b8,1,none⟩=some (FB (some ⟨H,0,none⟩) n1 p1)/\w'.cell? ⟨w,0,none⟩=some (.int .i64 p)/\w'.cell? ⟨g6,0,none⟩=some (.int .i64 s1)/\w'.cell? ⟨g6,1,none⟩=some (.int .i64 s2)/\D4 wr w')
   (exact yg)
   (first
     | ((with_reducible refine(jr _ _ _ _ _).mono ?_)
        rw[HLS.o];rintro e w14 ⟨rfl,Ix⟩
        try with_reducible first|have A7:=ai.grow A7 Ix|have A7:=ai.Fk Ix|have A7:=ai.Fq r7 Ix
        try(have Ko:=A7.c0;have Kn:=A7.c1;have L4:=A7.free)
        have r7:D4 wr w14:=Qx;have G7:=r7.size))
  all_goals(exact yx)
 obtain⟨gb,rfl,rfl,HB⟩:=hcut;have XD:=(LF.trans IX).trans HB.ext;have f0:=HB.c0;have f1:=HB.c1;have p0':=HB.ext.o9 p0;have FM:=I (HO.ext HB.ext);have IY:=I (HB.ext.blk Lc);have⟨n0,n2,n3,nf⟩:=fS IY.o;have hwcs2:=HB.ext.size;clear TM UI e0' Wo p0 m0 m1 m2 mf ZA e0 e1 XC;cases two
 ·have HC:=I (show fJ true g ⟨1,rX,Z,rr,(FR,Fz),rp⟩=3 by rw[Q5.o];rfl);have⟨q0,q1,q2,qf⟩:=MP.o wc XD;have⟨z,z0,z1,z2,zo⟩:=GK.o wc XD 3 (FB none 0 0) (FB none 0 0);have qq0:=@o5;exact SG
 have HC:=I (show fJ true g ⟨1,rX,Z,rr,(FR,Fz),rp⟩=1 by rw[Q5.o];rfl);have⟨gp,hgp,hgb2,ZA,hgl2⟩:=FM.block Nv;simp only[Pi,gl,gi]at hgp;subst hgp;obtain⟨y3,y4,y5,y6,hyq,_,hyc,hyd⟩:=FM.rats.at Nv;simp only[Pi,gl,gi]at hyq;obtain⟨rfl,rfl⟩:=hyq;rw[fs]at hyc hyd;have NA:=I (FM.set HUL.o k1 k2);have hxb8:H≠b8:=O;have RV:=I (show((wc.setCell ⟨H,u*2,none⟩ (.int .i64 k1)).setCell ⟨H,u*2+1,none⟩ (.int .i64 k2)).heap[b8]?=some (SH #[.int .i64 1,FB (some ⟨H,0,none⟩) n1 p1,FB none 0 0] 92 (0,0))from
  ((If _ _ _ _ (by show b8≠H;omega)).trans (If _ _ _ _ (by show b8≠H;omega))).trans IY)
 have hwg:W.heap.size<=H:=by have:=LF.size;have:=S0.o;omega
 have XP:D4 W ((wc.setCell ⟨H,u*2,none⟩ (.int .i64 k1)).setCell ⟨H,u*2+1,none⟩ (.int .i64 k2)):=(XD.setCell (p:=⟨H,u*2,none⟩) hwg _).setCell (p:=⟨H,u*2+1,none⟩) hwg _;have⟨wp,hwp⟩:=j7 ((wc.setCell ⟨H,u*2,none⟩ (.int .i64 k1)).setCell ⟨H,u*2+1,none⟩ (.int .i64 k2));rw[<-hwp]at NA XP RV;rw[<-Q1.o]at NA;go_upto_region 19 with rfl;rw[<-hwp];clear hwp hyc hyd ZA f0 f1 XD n0 n2 n3 nf;have⟨n0,n2,n3,nf⟩:=fS RV.o;have⟨q0,q1,q2,qf⟩:=MP.o wp XP;have⟨z,z0,z1,z2,zo⟩:=GK.o wp XP 1 (FB (some ⟨H,0,none⟩) n1 p1) (FB none 0 0);have HZ:=I z;have Qu:=I zo;clear z zo;go_wp2;refine GE (v:=.agg #[.int .i64 1,FB (some ⟨H,0,none⟩) n1 p1,FB none 0 0]) (by simp[results,o5,go_sem,z0,z1,z2]) rfl ⟨⟨_,_,_,_,_,_,by rw[HC.o],λ_=>(NA.mono (by have:=LF.size;have:=S0.o;omega)).keep λk hk=>Qu.o k (by have:=(NA.lt k hk).1;have:=LF.size;have:=S0.o;omega)⟩,HZ⟩
section
def bz(h:σ:=by simp[results,results131,go_sem,FH,FL,Hs]<;>rfl):σ:=h
def U9(h:σ:=by simp only;omega):σ:=h
def XD(h:σ:=by rw[Fp.o];omega):σ:=h
def jl(h:σ:=by simp[results,results181,go_sem,FH,FL,Hs]<;>rfl):σ:=h
def ZE(h:σ:=by simp only;rw[kS];simp):σ:=h
variable{l M:o7}{k n fn Km i base g:Nat}{s:Int}{w:J}{a fa:o6}{L:l9}{fid:FuncId}{ca:Array atY}
def Iz(l:l9)(s:Int):Bool:=l.any λf=>f.1 == s
theorem Dx{l:l9}(h:k<Lp l):Iz (l.take (k+1)) s=(Iz (l.take k) s||(l[k]?.getD (0,0,0)).1 == s):=by
 rw[kF h];simp[Iz]
theorem rv{l:l9}(h:k<Lp l)(e:(l[k]?.getD (0,0,0)).1=s):Iz l s=true:=by
 unfold Iz;rw[hJ];exact⟨l[k],cP h,by rw[In h]at e;simpa using e⟩
theorem rM{cap:Nat}{l:l9}(h:IF w a n cap l)(s:Int):
 Calls prog 262 #[FB a n cap,U s] w λe w'=>e=atn (ato (Iz l s))/\w=w':=by
 have⟨y7,y8⟩:=h.ath;have HL:=I h.hlen;have K:=I h;go_in
 go_wp2
 go_loop [5] (λH=>∃k:Nat,k<=n/\H=U k/\e9 (Iz (l.take k) s=false)) (λH=>n-(intOf H).toNat)
 ·exact⟨0,ef _,rfl,I rfl⟩
 obtain⟨k,hk,rfl,HA⟩:=hrel;by_cases hlt:k<n
 ·obtain⟨b,off,x,y,z,rfl,hx,hc,FQ,IH⟩:=K.at hlt;by_cases G:x=s
  ·have HT:=I (rv (l:=l) (k:=k) (s:=s) CI (by rw[hx];exact G));subst G;go_wp2;go_ret;exact⟨ag HT.symm,rfl⟩
  have S8:(x == s)=false:=by simpa using G
  have HT:=I (show Iz (l.take (k+1)) s=false by rw[Dx CI,HA.o,hx];simpa using G);go_wp2
  go_round
  case rel=>exact⟨k+1,by omega,by go_num,HT⟩
  exact k9
 have HT:e9 (l.take k=l):=aP S4;exact Ms
def bC(L:l9)(m:Nat):o7:=(Fx 1 m).filter λs=>!Iz L s
theorem BA(L:l9)(m:Nat):bC L (m+1)=bC L m++(if Iz L ((m:Int)+1)=true then [] else [(m:Int)+1]):=by
 unfold bC Fx;rw[mr,rN,Wq];congr 1;rw[z8,show(1:Int)+(m:Int)=(m:Int)+1 by omega];simp only[WB,List.filter_nil];cases Iz L ((m:Int)+1)<;>rfl
theorem eJ(L:l9)(m:Nat):Lp (bC L m)<=m:=by
 unfold bC;exact bR (Zn _ _) (by simp[Fx])
theorem lN{m:Nat}(h:s∈bC L m):1<=s/\s<=m/\Iz L s=false:=by
 unfold bC Fx at h;simp only[UG,xl,nM,Zo]at h;obtain⟨⟨i,hi,rfl⟩,G⟩:=h;exact⟨by omega,by omega,G⟩
theorem po(x:Int)(a:o6)(n cap:Nat)(hn:n<=1000)(h:IF w fa fn Km L):
 Calls prog 182 #[Id x a n cap,FB fa fn Km] w λe w'=>(∃v,e=atn v/\y9 w' w v (bC L (n-2)))/\D4 w w':=by
 have⟨m,HM⟩:=Ok (n-2);refine Fn h (D4.alloc w (SH #[U x,FB a n cap] 31)) (y9.Ft (w.alloc (SH #[U x,FB a n cap] 31)) (w+1) (w+1) j9 j9) λHF B4 HO=>?_;rw[<-HM.o];go_in
 go_wp2
 go_loopg [5,6] m (λgk oo ii wr=>∃(k:Nat) (K:o6) (H G:Nat),e9 (gk+k=m)/\ii=U ((k:Int)+1)/\oo=FB K H G/\e9 (y9 wr (w+1) (FB K H G) (bC L k))/\e9 (D4 (w.alloc (SH #[U x,FB a n cap] 31)) wr))
 ·exact⟨0,_,_,_,I O,by simp,rfl,HO,I ZL⟩
 obtain⟨k,K,H,G,HK,rfl,rfl,HO1,A6⟩:=hrel;have hsz:=A6.size;rw[Mc]at hsz;have hc:wr.cell? (IM w 1)=some (FB a n cap):=A6.o9 j9;have JS:k<=m:=l8 HK.o;have hm1000:m<=1000:=l8 HM.o;by_cases hlt:k<m
 ·have Ht:(k:Int)+1<(n:Int)-1:=by have:=HM.o;omega
  refine Fn (eJ L k) (rM ((HF.ext B4).ext A6) ((k:Int)+1)) (BA L k) λHL HC Z=>?_;cases hb:Iz L ((k:Int)+1)
  ·rw[hb]at HC Z
   go_wp2_with (first
    | (go_at_call 262;refine cR HC ?_)
    | (at_builtin;refine Wp ((k:Int)+1) HO1 A6 (l8 HL.o) λa5 n5 p5 w5 JU X5 Fj=>?_))
   refine dk ?_;exact⟨k+1,a5,n5,p5,I (l8 HK.o),by go_num,rfl,I (by have:=Fj.o;rw[Z.o];exact this),X5⟩
  rw[hb]at HC Z
  go_wp2_with (first
   | (go_at_call 262;refine cR HC ?_))
  refine dk ?_;exact⟨k+1,K,H,G,I (l8 HK.o),by go_num,rfl,I (by have:=HO1.o;rw[Z.o];simpa using this),A6⟩
 have E':k=m:=l8 HK.o;have hnlt:¬(k:Int)+1<(n:Int)-1:=l8 HM.o;subst E';exact Jx
structure vY(p:Int->Bool)(l M:o7)(i j:Nat):Prop where
 len:M.length=l.length
 le:i<=j
 jl:j<=l.length
 lo:M.take i=(l.take j).filter λx=>!p x
 hi:∀k,j<=k->M[k]?.getD 0=l[k]?.getD 0
theorem vY.drop{p:Int->Bool}{j:Nat}(h:vY p l M i j)(H:j<Lp l)(G:p (l[j]?.getD 0)=true):vY p l M i (j+1) :=
 ⟨h.len,by have:=h.le;omega,by omega,by rw[cD H,Wq,<-h.lo];simp[G],λk hk=>h.hi k O⟩
theorem vY.keep{p:Int->Bool}{j:Nat}(h:vY p l M i j)(H:j<Lp l)(G:p (l[j]?.getD 0)=false):vY p l (M.set i (l[j]?.getD 0)) (i+1) (j+1):=by
 have hi:i<Lp M:=by have:=h.le;have:=h.len;omega
 refine⟨by rw[km];exact h.len,by have:=h.le;omega,by omega,?_,λk hk=>?_⟩
 ·rw[cD H,Wq,<-h.lo,tn (by rw[km];exact hi),M5 (m9 _),List.getElem_set_self];simp[G]
 have:=h.le;rw[pk O];exact h.hi k O
theorem vY.start{p:Int->Bool}(hi:i<Lp l)(H:(l.take i).all (λx=>!p x)=true)(G:p (l[i]?.getD 0)=true):vY p l l i (i+1):=by
 refine⟨rfl,by omega,by omega,?_,λ_ _=>rfl⟩;rw[cD hi,Wq];have:(l.take i).filter (λx=>!p x)=l.take i:=List.filter_eq_self.2 λx hx=>fp.1 H x hx
 rw[this];simp[G]
theorem y9.zeros{cap:Nat}:∀(m:Nat) {o:Nat} {w:J} {M:o7},y9 w base (GT g n cap) M->∃M',y9 (w.setCells g o (List.replicate m (U 0))) base (GT g n cap) M'/\M'.take o=M.take o
 | 0,_,_,M,h=>⟨M,h,rfl⟩
 | m+1,o,w,M,h=>by
   have⟨M',h1,H⟩:=y9.zeros m (o:=o+1) (h.set o 0);refine⟨M',h1,?_⟩;have G:=IR (List.take o) H;rw[QA,QA,TW O]at G;rw[G,M5 (m9 _)]
theorem y9.W4{cap:Nat}(h:y9 w base (GT g n cap) M)(Q:k<=n):y9 w base (GT g k cap) (M.take k):=by
 rcases h.2 with⟨G,h0⟩|⟨g',cap',cur,G,hb,hg,h1,Z,hs,K⟩
 ·cases G
 simp only[mn,Pi,gl,gi]at G;obtain⟨rfl,rfl,rfl⟩:=G;have H:Lp (M.take k)=k:=t8;refine⟨by simp,.inr ⟨g,cap,cur,by rw[H],hb,hg,by omega,Z,hs,?_⟩⟩;rw[H,yo,<-K,QA,Nat.mul_one,Nat.mul_one,TW Q]
theorem y9.IJ{cap:Nat}(h:y9 w base (GT g n cap) l):base<=g/\g<w.heap.size/\(∀j,w.frozen? (IM g j)=false)/\∀k,k<n->w.cell? (IM g k)=some (U (l[k]?.getD 0)):=by
 rcases h.2 with⟨G,h0⟩|⟨g',cap',cur,G,hb,hg,h1,h2,hs,ht⟩
 ·cases G
 have K:g'=g:=by simp only[mn,Pi,gl,gi]at G;exact G.1.symm
 subst K;refine⟨hb,IO hg,λj=>fy w g' j cur _ hg,λk H=>?_⟩;have⟨b,off,e,hc⟩:=h.ints.at H;simp only[Pi,gl,gi]at e;rw[<-e.1,<-e.2,fs]at hc;exact hc
theorem iO{B:Nat}{a:J}(b:Nat)(hb:B<=b):∀(G:List atY) (o:Nat) {w:J},Below B a w->Below B a (w.setCells b o G)
 | [],_,_,h=>h
 | v::r,o,w,h=>iO b hb r (o+1) (h.setCell hb v)
theorem WK(w:J):(zeroValue 3).run prog w=.ok (U 0) w:=rfl
theorem xP{W0:J}{cap:Nat}{p:Int->Bool}(hX:D4 W0 w)(hb:W0.heap.size<=base)(h:y9 w base (GT g n cap) l)(hn:0<n)(hg:Rd prog fid)(hf:O4 prog W0 fid ca p):
 Calls prog 214 #[GT g n cap,.func (.func fid) #[] ca] w λe w' =>
  (∃m,e=atn (GT g m cap)/\y9 w' base (GT g m cap) (l.filter λx=>!p x))/\D4 W0 w':=by
 have⟨y7,y8⟩:=h.ints.ath;have VD:∀(args:Array atY) (w:J),(callFunc fid args).run prog w=.ok (.enter fid args) w:=hg;have HL:=I h.ints.hlen;have HO:=I h;have hbg:=h.IJ.1;refine Op hbg hf hX (mI (w:=w) h.ints hg (hf.ext hX)) λHBG HF HX HIX=>?_;by_cases G:∃i,l.findIdx? p=some i
 ·obtain⟨i0,hi0⟩:=G;have hix:di p l=(i0:Int):=by unfold di;rw[hi0]
  have⟨K2,hip,hia⟩:=pb.1 hi0;have FA:i0<n:=by rw[<-HL.o];exact K2
  have Gs:(l.take i0).all (λx=>!p x)=true:=by
   rw[fp];intro x hx;obtain⟨j,hj,rfl⟩:=Xi.1 hx;have:=hia j O
   simpa using this
  have KW:=I (vY.start (p:=p) K2 Gs (by rw[In K2];exact hip));rw[hix]at HIX;go_in
  go_wp2_with rfl;refine i6 HIX λw1 B0=>?_;have A6:=I (HX.trans B0);have HO1:=I (HO.ext B0);have hne:((i0:Int) == -1)=false:=j9;go_wp2
  go_loopg [5,6] n (λgk ii jj wr=>∃(i j:Nat) (M:o7),e9 (gk+j=n+i0+1)/\ii=U i/\jj=U j/\e9 (vY p l M i j)/\e9 (i<j)/\e9 (y9 wr base (GT g n cap) M)/\e9 (D4 W0 wr))
  ·exact⟨i0,i0+1,l,I O,rfl,by simp,KW,I O,HO1,A6⟩
  obtain⟨i,j,M,HJ,rfl,rfl,HK,HIJ,HM,C7⟩:=hrel;have Th:=HIJ.o;by_cases hlt:j<n
  ·have hc:=HM.IJ.2.2.2 j hlt;rw[HK.hi j (m9 _)]at hc;have⟨x,JT⟩:=Ok (l[j]?.getD 0);rw[<-JT.o]at hc;have HC:=I (HF x wr C7);have Hn:j<Lp l:=by rw[HL.o];exact hlt
   cases H:p x
   ·have Z:=I (HK.keep Hn (by rw[<-JT.o];exact H));rw[<-JT.o]at Z;rw[H]at HC;go_wp2_with rfl;refine i6 HC λw2 C9=>?_;have OV:=I (HM.ext C9);have hci:=OV.IJ.2.2.2 i O;have KG:=OV.IJ.2.2.1;have hfi:=KG i;have LG:=I (OV.set i x);have C5:=I ((C7.trans C9).store i (bR hb HBG) (U x));go_wp2_with rfl;refine sq ?_;exact⟨i+1,j+1,_,I (l8 HJ.o),by go_num,by go_num,Z,I O,LG,C5⟩
   have Z:=I (HK.drop Hn (by rw[<-JT.o];exact H));rw[H]at HC;go_wp2_with rfl;refine i6 HC λw2 C9=>?_;have OV:=I (HM.ext C9);have C5:=I (C7.trans C9);go_wp2_with rfl;refine sq ?_;exact⟨i,j+1,_,I (l8 HJ.o),rfl,by go_num,Z,I O,OV,C5⟩
  have JK:j=n:=by have:=HK.jl;have:=HL.o;omega
  subst JK;have K6:∀ty,(Builtin.clear_ #[29] ty #[FB (some (IM g i)) (j-i) (cap-i)]).run prog wr=.ok (.tuple #[]) (wr.setCells g i (List.replicate (j-i) (U 0))):=λty=>by
   refine Lib.run_clear_slice wr _ 3 ty _ ny WK rfl rfl g i _ _ O (λk hk=>?_) (λk hk=>?_)
   ·rw[HM.IJ.2.2.2 (i+k) O];rfl
   exact HM.IJ.2.2.1 _
  have⟨M',hM',ZP⟩:=y9.zeros (w:=wr) (j-i) (o:=i) HM.o;have HT:=I (show M'.take i=l.filter λx=>!p x by
   rw[ZP,HK.lo,aP hI])
  have HMF:=I hM';have HXF:=I (iO g (bR hb HBG) (List.replicate (j-i) (U 0)) i C7);go_wp2;go_ret;exact⟨⟨i,rfl,by rw[<-HT.o];exact HMF.W4 O⟩,HXF⟩
 have hix:di p l=-1:=by
  unfold di;cases hq:l.findIdx? p with
  | none=>rfl
  | some i=>exact absurd ⟨i,hq⟩ G
 have HFI:=I (show l.filter (λx=>!p x)=l by
  rw[List.filter_eq_self];intro x hx;cases hq:l.findIdx? p with
  | none=>have:=X0.1 hq x hx;simpa using this
  | some i=>exact absurd ⟨i,hq⟩ G)
 rw[hix]at HIX;go_in
 go_wp2_with rfl;refine i6 HIX λw1 B0=>?_;have A6:=I (HX.trans B0);have HO1:=I (HO.ext B0);go_wp2;go_ret;exact⟨⟨n,rfl,by rw[HFI.o];exact HO1⟩,A6⟩
def Lc(P:Program)(w:J)(fid:FuncId)(ca:Array atY)(p:Int×Int×Int->Bool):Prop :=
 ∀x y z (w1:J),D4 w w1->Calls P fid (#[.agg #[U x,U y,U z]]++ca) w1 λe w2=>e=atn (ato (p (x,y,z)))/\D4 w1 w2
theorem uq{cap:Nat}{l:l9}{p:Int×Int×Int->Bool}(h:IF w a n cap l)(hg:Rd prog fid)(hf:Lc prog w fid ca p):
 f9 284 #[FB a n cap,.func (.func fid) #[] ca] w (U (di p l)):=by
 have⟨hn,hm⟩:=h.ath;have VD:∀(args:Array atY) (w:J),(callFunc fid args).run prog w=.ok (.enter fid args) w:=hg;refine Fn h.hlen h hf λHL HI aa=>?_;unfold f9;go_in
 go_wp2
 go_loopg [8] n (λgk ii wr=>∃k:Nat,e9 (gk+k=n)/\ii=U k/\e9 ((l.take k).all (λx=>!p x)=true)/\e9 (D4 w wr))
 ·exact FC
 obtain⟨k,HK,rfl,K,B4⟩:=hrel;by_cases G:k<n
 ·obtain⟨b,off,x,y,z,rfl,FI,Fo,FQ,IH⟩:=(HI.ext B4).at G;have H:=I (aa x y z wr B4);have Z:k<Lp l:=by rw[HL.o];exact G
  cases hb:p (x,y,z)
  all_goals rw[hb]at H
  ·have HN:=I (show(l.take (k+1)).all (λx=>!p x)=true by rw[kF Z,p7,K.o,FI];simp[hb]);go_wp2_with rfl;refine i6 H λw1 hx=>?_;have X1:=I (B4.trans hx);go_wp2_with rfl;refine dk ?_;exact⟨k+1,I (l8 HK.o),by go_num,HN,X1⟩
  have HN:e9 (di p l=(k:Int)):=fP (d:=(0,0,0)) Z K.o (by rw[FI];exact hb);go_wp2_with rfl;refine i6 H λw1 hx=>?_;have qq0:=@au;exact rj
 have HN:e9 (l.take k=l):=aP eo;go_wp2;go_ret;exact⟨au (by rw[eF];have:=K.o;rwa [HN.o]at this),B4⟩
theorem pY{cap:Nat}{l:l9}{p:Int×Int×Int->Bool}(h:IF w a n cap l)(hg:Rd prog fid)(G:Lc prog w fid ca p):
 f9 216 #[FB a n cap,.func (.func fid) #[] ca] w (ato (l.any p)):=by
 have HC:=I (uq h hg G);exact Uo
theorem Dw:Rd prog 217:=cE func217 k8 k8
theorem ZX:Rd prog 215:=cE func215 k8 k8
theorem YR(x y z s:Int){b:Nat}(hc:w.cell? (IM b 0)=some (U s)):
 f9 217 #[.agg #[U x,U y,U z],ats (some (IM b 0))] w (ato (x == s)):=by
 have G:=I (D4.alloc w (SH #[U x,U y,U z] 137));have hb:b<w.heap.size:=vM _ _ hc;cases hq:(x == s)
 all_goals
  unfold f9;go_in
  go_wp2;go_ret;exact⟨ag rfl,G⟩
theorem cp(s:Int){b:Nat}{cap:Nat}(hc:w.cell? (IM b 0)=some (FB a n cap))(h:IF w a n cap L):
 f9 215 #[U s,ats (some (IM b 0))] w (ato (Iz L s)):=by
 have X2:=I (D4.alloc w (SH #[U s] 3));have hb:b<w.heap.size:=vM _ _ hc;have H:=I (pY (ca:=#[ats (some (IM w 0))]) (p:=λf=>f.1 == s) (h.ext X2) Dw (λx y z w1 G=>YR x y z s (G.o9 j9)));unfold f9;go_in
 go_wp2_with rfl;refine i6 H λw2 hx=>?_;exact Ni
theorem lg(x:Int)(a:o6)(n cap:Nat)(h4:3<=n)(hn:n<=1000)(h:IF w fa fn Km L):
 Calls prog 132 #[Id x a n cap,FB fa fn Km] w λe w'=>(∃v,e=atn v/\y9 w' w v (bC L (n-2)))/\D4 w w':=by
 have⟨W,G⟩:=j7 ((w.alloc (SH #[U x,FB a n cap] 31)).alloc (SH #[FB fa fn Km] 87));refine Fn (show W.heap.size=w.heap.size+2 by rw[G];simp) (show D4 w W by rw[G];exact ZL.trans ZL) (show W.cell? (IM (w+1) 0)=some (FB fa fn Km)by rw[G];simp) λFp Q H=>?_;have HF:=I (h.ext Q);have HA:e9 (O4 prog W 215 #[ats (some (IM (w+1) 0))] (Iz L)):=I λs Z hx=>cp s (hx.o9 H) (HF.ext hx);have K:=I (kY (w:=W) 1 ((n:Int)-2) (n-2) O O O O);rw[G]at K;go_in
 go_wp2_with rfl;refine K.mono ?_;rw[<-G];clear G;rintro e Z ⟨⟨v,rfl,ho⟩,B0⟩;obtain⟨a1,m,c1,rfl,hm⟩:=ho.var;have Rw:0<m:=by have:=hm.out;rw[zg]at this;omega
 obtain⟨g,rfl,_,_,_⟩:=ho.block Rw;have HD:=I (xP B0 (m9 _) ho Rw ZX HA);go_wp2_with rfl;refine PP HD λw2 m2 Is C9=>?_;have FM:=I Is;have C7:=I C9;go_wp2;go_ret;exact⟨⟨_,rfl,FM.mono XD⟩,Q.trans C7.o⟩
theorem LY{n d:Int}(h:(aN n d).2=false):(aN n d).1=(0,0):=by
 have hc:∀p,(Ik p).2=false->(Ik p).1=(0,0):=λp h=>by unfold Ik at h⊢;split at h<;>simp_all
 unfold aN at h⊢;split at h
 ·next h1=>rw[i7 h1]
 next h1 =>
 rw[f8 h1];split at h
 ·next h2=>rw[i7 h2];exact hc _ h
 next h2=>rw[f8 h2];exact hc _ h
theorem Ey(n d:Int):-1000000000<=(aN n d).1.1/\(aN n d).1.1<=1000000000:=by
 cases h:(aN n d).2
 ·rw[LY h];simp
 have:=aV (jR h);omega
theorem zq(a b:o8):-1000000000<=(FD a b).1.1/\(FD a b).1.1<=1000000000:=by
 unfold FD;split
 ·exact Ey _ _
 simp
abbrev V9:=Int×Int×Bool×Int×Int
def PZ:kf V9:=⟨λx=>[U x.1,U x.2.1,ato x.2.2.1,U x.2.2.2.1,U x.2.2.2.2],5,λ_=>rfl,by omega,λx u h=>by simp only[OI,R5,QJ]at h;rcases h with rfl|rfl|rfl|rfl|rfl<;>rfl⟩
theorem Tryz.UH:(prog.info? 224).map (λi=>(i.zero,i.size,i.bytes))=some (some (.agg #[U 0,U 0,ato false,U 0,U 0]),5,40):=by kernel_rfl
def iw(V:o7)(f:Int×Int×Int):o8:=(FD f.2 (V[f.1.toNat]?.getD 0,1)).1
def I2(s:Int)(c:o8):List V9:=[(s,1,false,c.1,c.2),(s,-1,false,-c.1,c.2)]
def bS(V:o7)(l:o7):List V9:=l.map λs=>(s,1,true,-(V[s.toNat]?.getD 0),1)
def aZ(V:o7)(L:l9):List V9:=L.flatMap λf=>I2 f.1 (iw V f)
def ec(V:o7)(L:l9):List V9:=bS V (bC L (Lp V-2))++aZ V L++I2 ((Lp V:Int)-1) (-(V[Lp V-1]?.getD 0),1)
def gW(V:o7)(L:l9)(k:Nat):List V9:=bS V (bC L (Lp V-2))++aZ V (L.take k)
theorem qo(V:o7)(h:k<Lp l):bS V (l.take k)++[(l[k]?.getD 0,1,true,-(V[(l[k]?.getD 0).toNat]?.getD 0),1)]=bS V (l.take (k+1)):=by
 rw[cD h];simp[bS]
theorem ep(V:o7)(l:o7):Lp (bS V l)=Lp l:=by simp[bS]
theorem fT(V:o7):∀L:l9,Lp (aZ V L)=2*Lp L
 | []=>rfl
 | f::L=>by
   have:=fT V L;simp only[aZ,Rv,ar,I2,mg,D1]at this⊢;omega
theorem Bo(V:o7)(h:k<Lp L){f:Int×Int×Int}(e:L[k]?.getD (0,0,0)=f):gW V L k++I2 f.1 (iw V f)=gW V L (k+1):=by
 subst e;unfold gW aZ;rw[kF h];simp
theorem y9.agG{w':J}{base':Nat}{v H:atY}{α:Type}{E:kf α}{t:TypeId}{Q:List α}(h:y9 w base v l)(Z:A9 E t w base' H Q)(G:3≠t)(hg:w.grownBy w' H.ownBlock):y9 w' base v l :=
 h.keep λk K=>hg.block k (h.lt k K).2 λe=>aD G h Z k K e.symm
theorem yV(x:Int){cap:Nat}{V:o7}(hV:d6 w a n cap V)(Om:∀y∈V,-500<=y/\y<=500)(h2:2<=n)(hn:n<=1000)(h:IF w fa fn Km L)(hL:∀f∈L,1<=f.1/\f.1+2<=n)(hfn:fn<=1048576):
 Calls prog 261 #[Id x a n cap,FB fa fn Km] w λe w'=>(∃v,e=atn v/\A9 PZ 224 w' w v (ec V L))/\D4 w w':=by
 have⟨W,hW⟩:=j7 (w.alloc (SH #[.int .i64 x,FB a n cap] 31));refine y5 hW (show W.heap.size=w.heap.size+1 by rw[hW];simp) (show D4 w W by rw[hW];exact ZL) (show W.cell? ⟨w,1,none⟩=some (FB a n cap)by rw[hW];simp) (show W.cell? ⟨w,0,none⟩=some (.int .i64 x)by rw[hW];simp) hV.hlen λHW Fp B4 P9 OR HVL=>?_;have PI:=hV.y7;have PH:=hV.y8;have ZD:=h.y7;have ZC:=h.y8;refine y5 (hV.ext B4) Om h.hlen (h.ext B4) hL (A9.Ft PZ 224 W (w+1) (w+1) Fp.symm (by rw[Fp.o];exact m9 _)) λHV J9 IP HF Hj HO=>?_;refine Fn (po (w:=W.alloc (SH #[] 224)) x a n cap hn (HF.ext ZL)) (eJ L (n-2)) (λs=>lN (L:=L) (m:=n-2) (s:=s)) λVZ HML MQ=>?_;rw[hW]at VZ;clear h hL hV Om;go_in
 go_wp2_with rfl;refine VZ.mono ?_;rw[<-hW];clear hW;rintro e w1 ⟨⟨vf,rfl,hfo⟩,B0⟩;obtain⟨af,m,cf,rfl,hfm⟩:=hfo.var;refine Op (hfo.mono (base':=w.heap.size+1) (by rw[Mc,Fp.o];omega)) hfm.out ((D4.alloc W _).trans B0) (HO.ext B0) λHFO Se X1 aa=>?_;have Zs:=hfo.ints.y7;have Zr:=hfo.ints.y8;have hmb:m<=1000:=by have:=HML.o;have:=Se.o;omega
 clear hfo B0 hfm;go_wp2
 go_loopg [5,7] m (λgk oo ii wr=>∃(k:Nat) (a1:o6) (n1 p1:Nat),e9 (gk+k=m)/\ii=.int .i64 (k:Int)/\oo=FB a1 n1 p1/\e9 (A9 PZ 224 wr (w+1) (FB a1 n1 p1) (bS V ((bC L (n-2)).take k)))/\e9 (y9 wr (w+1) (FB af m cf) (bC L (n-2)))/\e9 (D4 W wr))
 ·exact⟨0,_,_,_,I O,rfl,rfl,aa,HFO,X1⟩
 rename Nat=>g1;rename J=>A1;obtain⟨k,a1,n1,p1,HK,rfl,rfl,Ho,Tw,HX⟩:=hrel;have hsz:=HX.size;rw[Fp.o]at hsz;have hcv:A1.cell? ⟨w,1,none⟩=some (FB a n cap):=HX.o9 P9.o;by_cases hlt:k<m
 ·have⟨b,off,he,Tf⟩:=Tw.ints.at hlt;subst he;have⟨s,hs⟩:=j7 ((bC L (n-2))[k]?.getD 0);rw[<-hs]at Tf;have GF:k<Lp (bC L (n-2)):=by rw[Se.o];exact hlt
  have hsm:=MQ.o s (by rw[hs,In GF];exact cP GF);obtain⟨t,rfl⟩:∃t:Nat,s=t:=⟨s.toNat,by omega⟩;have Y9:t<n:=O;have⟨vb,K,Ta,OA⟩:=HV.at Y9;subst Ta;have O9:=du J9.o t;have⟨y,hy⟩:=j7 (V[t]?.getD 0);rw[<-hy]at OA O9;have HVC:=I OA;replace OA:=HX.o9 OA;have H7:=I (show bS V ((bC L (n-2)).take k)++[((t:Int),1,true,-y,1)]=bS V ((bC L (n-2)).take (k+1))by
   rw[<-qo V GF,<-hs,hy];rfl)
  have Q':=dc (-y);have Va:=I (show(bS V ((bC L (n-2)).take k)).length<=1000 by rw[ep,jt];have:=HML.o;omega);have G:=D4.drew A1;clear hs hsm hy GF;have NZ:e9 (some b≠(FB a1 n1 p1).ownBlock):=I λe=>aD FS Tw.o Ho.o b rfl e.symm;have Ij:D4 W A1:=HX.o;have r8:=I (λ(w':J) (h:D4 W w') (hc:w'.cell? ⟨b,off+k,none⟩=some (.int .i64 (t:Int)))=>(⟨h.o9 P9.o,hc,h.o9 HVC.o,h⟩:w'.cell? ⟨w,1,none⟩=some (FB (some ⟨vb,K,none⟩) n cap)/\w'.cell? ⟨b,off+k,none⟩=some (.int .i64 (t:Int))/\w'.cell? ⟨vb,K+t,none⟩=some (.int .i64 y)/\D4 W w'));go_wp2_with rfl
  go_region_held3 (λw'=>w'.cell? ⟨w,1,none⟩=some (FB (some ⟨vb,K,none⟩) n cap)/\w'.cell? ⟨b,off+k,none⟩=some (.int .i64 (t:Int))/\w'.cell? ⟨vb,K+t,none⟩=some (.int .i64 y)/\D4 W w')
   (first
     | with_reducible exact r8.o _ (Ij.trans G) (G.o9 Tf)
     | with_reducible exact r8.o _ (Ij.trans (G.trans ZL)) ((G.trans ZL).o9 Tf)
     | with_reducible exact r8.o _ X5.o HC5.o)
   (first
     | ((with_reducible refine(cV _ _).mono ?_)
        rintro e w3 ⟨rfl,C0⟩;have G:D4 A1 w3:=G.trans C0;have LR:=G.size)
     | (refine bU _ l7 ?_
        refine iq PZ Tryz.UH rfl Tryz.underlying221 FS _ _ l7 (w+1) (FB a1 n1 p1) _ l7 (Ho.ext (G.trans ZL)) _ 1 1 [((t:Int),1,true,-y,1)] l7 (ID.lit PZ _ _ _ 1 l7 _ l7 _ l7 O) (l8 Va.o) t8 ?_;intro v5 w5 ho hg r';have HFN:=I ((Tw.ext (G.trans ZL)).agG (Ho.ext (G.trans ZL)) FS hg);have HC5:=I (hg.cell ((G.trans ZL).o9 Tf) NZ);obtain⟨a5,n5,p5,rfl,JU⟩:=ho.var;have Fj:=I ho;have X5:=I (aj (w0:=W) (HX.trans (G.trans ZL)) hg (λj hj=>by have:=Ho.lt j hj;rw[Fp.o];omega))
        clear ho hg r'))
  clear Ij;go_wp2_with rfl;refine gy ?_;exact⟨k+1,a5,n5,p5,I (l8 HK.o),by go_num,rfl,I U5,HFN,X5⟩
 have JS:k=m:=l8 HK.o;subst JS;have Hx:=I (show bS V ((bC L (n-2)).take k)=gW V L 0 by
  have:(bC L (n-2)).take k=bC L (n-2):=aP (by rw[Se.o];exact m9 _)
  rw[this];unfold gW;rw[HVL.o];simp[aZ])
 rw[Hx.o]at Ho;have HCL:=I (λj=>show(gW V L j).length<=1000+2*fn by
  unfold gW;rw[ar,ep,fT,jt,HVL.o];have:=HML.o;have:=IP.o;omega)
 clear Tw HK;go_wp2
 go_loopg [5,8] (fn+1) (λgk oo ii wr=>∃(k:Nat) (a1:o6) (n1 p1:Nat),e9 (gk+k=fn+1)/\ii=.int .i64 (k:Int)/\oo=FB a1 n1 p1/\e9 (A9 PZ 224 wr (w+1) (FB a1 n1 p1) (if k<=fn then gW V L k else ec V L))/\e9 (D4 W wr))
 ·exact⟨0,_,_,_,I O,rfl,rfl,I (by rw[i7 O];exact Ho),HX⟩
 obtain⟨k,a2,n2,p2,HK,rfl,rfl,HO1,A6⟩:=hrel;have J0:=A6.size;rw[Fp.o]at J0;have agm:wr.cell? ⟨w,1,none⟩=some (FB a n cap):=A6.o9 P9.o;by_cases hle:k<=fn
 ·rw[i7 hle]at HO1;have⟨u,hu⟩:=j7 (n-1);have hnu:(n:Int)-1=(u:Int):=by omega
  have Nv:u<n:=O;have⟨vb,K,Ta,OA⟩:=HV.at Nv;subst Ta;have O9:=du J9.o u;have⟨y,hy⟩:=j7 (V[u]?.getD 0);rw[<-hy]at OA O9;have HVC:=I OA;replace OA:=A6.o9 OA;have HU:=I hu;have HY:=I hy;have Q':=dc (-y);clear hu hy;go_upto_if 59 with(go_at_call 171;refine i6 (cV _ _) λw3 C0=>?_;have LR:=C0.size)
  have Mo:=I (ai.new C0 (-y) 1);have hcv3:=C0.o9 agm;go_cut [9,10] (λss cc wx=>∃(S:Int) (g:Nat) (p q:Int),ss=.int .i64 S/\cc=ats (some ⟨g,0,none⟩)/\e9 (ai wr wx g p q)/\e9 (gW V L k++I2 S (p,q)=if k+1<=fn then gW V L (k+1) else ec V L)/\e9 (-1000000000<=p/\p<=1000000000))
  case first =>
   by_cases F4:k<fn
   ·have⟨fb,PV,c,fx,fy,hfa,hfe,Re,QP,VB⟩:=HF.at F4;subst hfa;have GF:k<Lp L:=by rw[IP.o];exact F4
    have Nx:=Hj.o (c,fx,fy) (by rw[<-hfe,In GF];exact cP GF);simp only at Nx;obtain⟨t,rfl⟩:∃t:Nat,c=t:=⟨c.toNat,by omega⟩;have Y9:t<n:=O;have⟨Vi,voff',Ta,TQ⟩:=HV.at Y9;simp only[Pi,gl,gi]at Ta;obtain⟨rfl,rfl⟩:=Ta;have⟨z,hz⟩:=j7 (V[t]?.getD 0);rw[<-hz]at TQ;obtain⟨p,q,ok,Fw⟩:∃p q ok,FD (fx,fy) (z,1)=((p,q),ok):=⟨_,_,_,rfl⟩;have Gi:=I Fw;have HPB:=I (show -1000000000<=p/\p<=1000000000 by have:=zq (fx,fy) (z,1);rw[Fw]at this;exact this)
    have Tr:=I (show gW V L k++I2 (t:Int) (p,q)=gW V L (k+1)by
     rw[<-Bo V GF hfe];unfold iw;simp only;rw[show((t:Int)).toNat=t by simp,<-hz,Fw])
    have XW:=I (A6.trans C0);replace Re:=XW.o9 Re;have kf1:=A6.o9 QP;have kf2:=A6.o9 VB;have kvt:=A6.o9 TQ;replace QP:=XW.o9 QP;replace VB:=XW.o9 VB;replace TQ:=XW.o9 TQ;have hfl:fb<w3.heap.size:=vM _ _ Re;have NG:vb<w3.heap.size:=vM _ _ TQ;have Z:ai wr (w3.alloc (SH #[.int .i64 (-y),.int .i64 1] 80)).drew w3 (-y) 1:=Mo.grow fl;have G:=Z.ext;clear hfe GF Nx hz Fw hnu OA;have r8:=I λw' (h:D4 wr w')=>TX (h.o9 agm) (TX (h.o9 kf1) (TX (h.o9 kf2) (TX (h.o9 kvt) h)));clear kf1 kf2 kvt;go_wp2_with rfl
    go_region_held3 (λw'=>w'.cell? ⟨w,1,none⟩=some (FB (some ⟨vb,K,none⟩) n cap)/\w'.cell? ⟨fb,PV+k*3+1,none⟩=some (.int .i64 fx)/\w'.cell? ⟨fb,PV+k*3+2,none⟩=some (.int .i64 fy)/\w'.cell? ⟨vb,K+t,none⟩=some (.int .i64 z)/\D4 wr w')
     (first
       | with_reducible exact r8.o _ G
       | with_reducible exact r8.o _ (Z.put _ _).ext)
     (first
       | ((with_reducible refine(cV _ _).mono ?_)
          rintro e w4 ⟨rfl,E4⟩;have Z:=Z.grow E4;have G:=Z.ext;have I7:=Z.c0;have Gm:=Z.c1;have hbf:=Z.free)
       | ((with_reducible refine(rL _ _ _ _ _).mono ?_)
          rw[Gi.o];rintro e w5 ⟨rfl,F'⟩;have Z:=Z.grow F';have G:=Z.ext;have I7:=Z.c0;have Gm:=Z.c1;have hbf:=Z.free))
    go_wp2;go_meet;exact⟨_,_,_,_,rfl,rfl,I (Z.put _ _),I (by rw[i7 O];exact Tr),HPB⟩
   have hkf:k=fn:=O;subst hkf;go_wp2;go_meet;exact⟨_,_,_,_,rfl,rfl,Mo,I (by
    rw[f8 O];unfold gW ec;rw[aP (by rw[IP.o];exact m9 _),HVL.o,<-HU.o,<-HY.o];rw[hnu]),I O⟩
  obtain⟨S,g,p,q,rfl,rfl,HB,HS,HPB⟩:=hcut;have hpb:=HPB.o;have I7:=HB.c0;have Gm:=HB.c1;have XC:=I (A6.trans HB.ext);have Ns:=I (HO1.ext HB.ext);have NZ:=I (aq Ns.o HB.cell FS);have HCK:=I (HCL k);have Ij:D4 W wc:=XC.o;have G:=D4.drew wc;have QK:=XC.size;rw[Fp.o]at QK;have r8:=I (λ(w':J) (h:D4 W w') (h0:w'.cell? ⟨g,0,none⟩=some (.int .i64 p)) (h1:w'.cell? ⟨g,1,none⟩=some (.int .i64 q))=>(⟨h0,h1,h⟩:w'.cell? ⟨g,0,none⟩=some (.int .i64 p)/\w'.cell? ⟨g,1,none⟩=some (.int .i64 q)/\D4 W w'));clear hcv3 agm OA hnu;go_wp2_with rfl
  go_region_held3 (λw'=>w'.cell? ⟨g,0,none⟩=some (.int .i64 p)/\w'.cell? ⟨g,1,none⟩=some (.int .i64 q)/\D4 W w')
   (first
     | with_reducible exact r8.o _ (Ij.trans G) (G.o9 I7) (G.o9 Gm)
     | with_reducible exact r8.o _ (Ij.trans (G.trans ZL)) ((G.trans ZL).o9 I7) ((G.trans ZL).o9 Gm)
     | with_reducible exact r8.o _ X5.o HC5.o WC.o)
   (first
     | ((with_reducible refine(eZ _ _ _ O O).mono ?_)
        rintro e w4 ⟨rfl,E4⟩;have G:D4 wc w4:=G.trans E4;have Wb:=G.size)
     | (refine bU _ l7 ?_
        refine iq PZ Tryz.UH rfl Tryz.underlying221 FS _ _ l7 (w+1) (FB a2 n2 p2) _ l7 (Ns.ext (G.trans ZL)) _ 2 2 (I2 S (p,q)) l7 (ID.lit PZ _ _ _ 2 l7 _ l7 _ l7 O) (l8 HCK.o) t8 ?_;intro v5 w5 ho hg r';have HC5:=I (hg.cell ((G.trans ZL).o9 I7) NZ);have WC:=I (hg.cell ((G.trans ZL).o9 Gm) NZ);obtain⟨a5,n5,p5,rfl,JU⟩:=ho.var;have Fj:=I ho;have X5:=I (aj (w0:=W) (XC.trans (G.trans ZL)) hg (λj hj=>by have:=Ns.lt j hj;rw[Fp.o];omega))
        clear ho hg r'))
  clear Ij;go_wp2_with rfl;refine dk ?_;exact⟨k+1,a5,n5,p5,I (l8 HK.o),by go_num,rfl,I (by rw[<-HS.o];exact Fj),X5⟩
 have hkf:k=fn+1:=l8 HK.o;have hnle:¬((k:Int)<=(fn:Int)):=O;rw[f8 hle]at HO1;exact Jx
def pos(ord:o7)(k:Nat):Nat:=(ord[k]?.getD 0).toNat
theorem YL:∀n:Fin 6,∀s:Fin 32,∀k:Fin 5,s.val<cN n.val->k.val<n.val->M2 ((s.val:Nat):Int) k.val=false ->
 s.val+cN k.val<cN n.val/\bits .or .i64 ((s.val:Nat):Int) (2^k.val)=((s.val+cN k.val:Nat):Int)/\∀j:Fin 5,M2 ((s.val+cN k.val:Nat):Int) j.val=(M2 ((s.val:Nat):Int) j.val||decide (j.val=k.val)):=by decide +kernel
theorem join(n s k:Nat)(G:n<=5)(hs:s<cN n)(H:k<n)(hb:M2 (s:Int) k=false):
 s+cN k<cN n/\bits .or .i64 (s:Int) (2^k)=((s+cN k:Nat):Int)/\∀j,j<5->M2 ((s+cN k:Nat):Int) j=(M2 (s:Int) j||decide (j=k)):=by
 have h:=YL ⟨n,by omega⟩ ⟨s,by have:=bp n G;omega⟩ ⟨k,by omega⟩ hs H hb;exact⟨h.1,h.2.1,λj K=>h.2.2 ⟨j,K⟩⟩
theorem BC{p:Int}{V:o7}(h:ak p V=true):∀i:Nat,-500<=V[i]?.getD 0/\V[i]?.getD 0<=500:=λi=>by
 obtain⟨_,_,_,_,_,_,G⟩:=ap h;by_cases hi:i<Lp V
 ·have:=G _ (cP hi);simpa[hi]using this
 simp[mq (by omega:V.length<=i)]
end
section
variable{w:J}{a:o6}{n k m Km i:Nat}{l L:l9}{V r:o7}
theorem IF.take{cap:Nat}(h:IF w a n cap l)(hk:k<=n):IF w a k cap (l.take k) :=
 ⟨by have:=h.hlen;simp;omega,by have:=h.y7;omega,h.y8,λj hj=>by
  have⟨b,off,e,hc⟩:=h.cell j O;refine⟨b,off,e,λi hi=>?_⟩;have:=hc i O
  rwa [Ro,i7 hi]⟩
theorem IF.drewN{cap:Nat}(h:IF w a n cap l)(m:Nat):IF (w.drewN m) a n cap l:=h.ext (y6 (D4.refl w) m)
def M9(L:l9)(hi:Int)(k:Nat):Bool:=(List.range k).all λi=>A8 (L[i]?.getD (0,0,0)).1 1 hi&&!Iz (L.take i) (L[i]?.getD (0,0,0)).1
theorem vH(L:l9)(hi:Int)(k:Nat):M9 L hi (k+1)=(M9 L hi k&&(A8 (L[k]?.getD (0,0,0)).1 1 hi&&!Iz (L.take k) (L[k]?.getD (0,0,0)).1)):=by simp[M9,mr]
theorem ky{hi:Int}(h:(A8 (L[k]?.getD (0,0,0)).1 1 hi&&!Iz (L.take k) (L[k]?.getD (0,0,0)).1)=false)(G:k<m):M9 L hi m=false:=by
 rw[M9,Uf];exact⟨k,nM.2 G,by rw[h];simp⟩
theorem Yh{hi:Int}(h:M9 L hi (Lp L)=true):∀f∈L,1<=f.1/\f.1<=hi:=by
 intro f H;obtain⟨k,G,rfl⟩:=QR H;have:=(fp.1 h) k (nM.2 G);rw[In G]at this;simp only[NE,cM,A8,cq]at this;exact this.1
def eR(p:Int)(V:o7)(L:l9):Bool:=ak p V&&(decide (2<=p)&&(M9 L ((Lp V:Int)-2) (Lp L)&&decide (0<(bC L (Lp V-2)).length)))
theorem U0(h2:2<=n)(h5:n<=5):4<=cN n:=by
 have:n=2∨n=3∨n=4∨n=5:=O;rcases this with rfl|rfl|rfl|rfl<;>decide
theorem EQ{p:Int}{cap:Nat}(hV:d6 w a n cap V){fa:o6}{fn:Nat}(h:IF w fa fn Km L)(hfn:fn<=1048576):
 f9 260 #[Id p a n cap,FB fa fn Km] w (ato (eR p V L)):=by
 have⟨W,G⟩:=j7 (w.alloc (SH #[.int .i64 p,FB a n cap] 31));refine kv (show W.heap.size=w.heap.size+1 by rw[G];simp) (show D4 w W by rw[G];exact ZL) (show W.cell? ⟨w,1,none⟩=some (FB a n cap)by rw[G];simp) (show W.cell? ⟨w,0,none⟩=some (.int .i64 p)by rw[G];simp) hV.hlen λFp HX P9 OR K=>?_;have PI:=hV.y7;have PH:=hV.y8;have ZD:=h.y7;have ZC:=h.y8;refine Op h.hlen (h.ext HX) (bY (p:=p) (hV.ext HX)) (hV.ext HX) λIP ab HC Kx=>?_;clear h hV;cases hg:ak p V
 ·have HF:=I (show eR p V L=false by unfold eR;rw[hg];rfl);rw[hg,G]at HC;clear hg;(try unfold f9);go_in
  go_wp2_with rfl;refine HC.mono ?_;rw[<-G];rintro e w1 ⟨rfl,C9⟩;exact gd
 obtain⟨q,hq,h1,h5,hlen,_,Ha⟩:=ap hg;have HGO:=I hg;rw[hg,G]at HC;clear hg;by_cases Qo:p<2
 ·have HF:=I (show eR p V L=false by unfold eR;rw[HGO.o,RK (by omega:¬2<=p)];rfl);clear hq hlen Ha;(try unfold f9);go_in
  go_wp2_with rfl;refine HC.mono ?_;rw[<-G];rintro e w1 ⟨rfl,C9⟩;have Fo:=C9.o9 OR.o;exact gd
 have Qq:4<=n:=by have:=U0 (n:=q) O h5;rw[<-K.o,hlen];exact this
 have IU:n<=32:=by have:=bp q h5;rw[<-K.o,hlen];exact this.2
 clear hq hlen Ha;(try unfold f9);go_in
 go_wp2_with rfl;refine HC.mono ?_;rw[<-G];rintro e w1 ⟨rfl,C9⟩;have T2:=I C9;have Fo:=C9.o9 OR.o;clear C9;clear G;go_wp2_with rfl;clear Fo
 go_loopg [5] fn (λgk ii wr=>∃k:Nat,e9 (gk+k=fn)/\ii=.int .i64 (k:Int)/\e9 (M9 L ((n:Int)-2) k=true)/\e9 (D4 W wr))
 ·exact my
 obtain⟨k,HK,rfl,HO,Z⟩:=hrel;have hcv:wr.cell? ⟨w,1,none⟩=some (FB a n cap):=Z.o9 P9.o;by_cases hlt:k<fn
 ·have HFW:=I (ab.ext Z);obtain⟨b,off,c,x,y,rfl,FI,Re,QP,VB⟩:=HFW.at hlt;have Q':=dc ((n:Int)-2)
  cases hb:A8 c 1 ((n:Int)-2)
  ·have HF:=I (show eR p V L=false by
    unfold eR;rw[IP.o,K.o,ky (k:=k) (m:=fn) (by rw[FI];simp only;rw[hb];rfl) hlt];simp)
   clear FI;go_wp2
   go_quiet ((go_at_call 90;exact be p9))
   go_wp2;go_ret;exact⟨ag HF.symm,HX.trans (Z.trans (F8.ext ⟨_,rfl⟩))⟩
  cases hh:Iz (L.take k) c
  ·have HN:=I (show M9 L ((n:Int)-2) (k+1)=true by rw[vH,HO.o,FI];simp only;rw[hb,hh];rfl);clear FI;go_wp2
   go_quiet ((first|(go_at_call 90;exact be p9)|(go_at_call 262;exact be (rM ((HFW.drewN _).take O) _))))
   go_wp2;refine dk ?_;exact⟨k+1,I (l8 HK.o),by go_num,HN,I (Z.trans (F8.ext ⟨_,rfl⟩))⟩
  have HF:=I (show eR p V L=false by
   unfold eR;rw[IP.o,K.o,ky (k:=k) (m:=fn) (by rw[FI];simp only;rw[hh];simp) hlt];simp)
  clear FI;go_wp2
  go_quiet ((first|(go_at_call 90;exact be p9)|(go_at_call 262;exact be (rM ((HFW.drewN _).take O) _))))
  go_wp2;go_ret;exact⟨ag HF.symm,HX.trans (Z.trans (F8.ext ⟨_,rfl⟩))⟩
 have hkf:k=fn:=l8 HK.o;subst hkf;have hcw:wr.cell? ⟨w,0,none⟩=some (.int .i64 p):=Z.o9 OR.o;have Rk:=I (po (w:=wr) p a n cap O (ab.ext Z));have HF:=I (show eR p V L=decide (0<Lp (bC L (n-2)))by
  unfold eR;rw[HGO.o,IP.o,K.o,HO.o,bl (show 2<=p by omega)];simp)
 go_wp2_with rfl;refine PP Rk λw2 v ho aa=>?_;obtain⟨af,m,cf,rfl,hm⟩:=ho.var;have HM:=I hm.out;clear ho hm;have Rw:decide ((m:Int) > 0)=decide (0<Lp (bC L (n-2))):=by rw[HM.o];rw[uu];simp
 clear Rw;go_wp2;go_ret;exact⟨ag (by rw[HF.o,HM.o]),HX.trans (Z.trans aa)⟩
def Yi(q k:Nat)(c:V9):Bool:=if k<q then Ia c.1 (k:Int) else c.2.2.1
def JV(A':List V9)(q k:Nat):o7:=A'.map λc=>c.2.1*Fv (Yi q k c)
def G4(q:Nat)(V:o7)(L:l9):o4:=(List.range (q+1)).map (JV (ec V L) q)
def UA(q:Nat):o7:=(List.range (q+1)).map λk=>Fv (decide (k=q))
def N8(V:o7)(L:l9):o3:=(ec V L).map λc=>c.2.2.2
def GA(p:Int)(V:o7)(L:l9):Bool:=eR p V L&&Hf (N8 V L)
def QG(p:Int)(V:o7)(L:l9):o4:=if GA p V L=true then G4 p.toNat V L else []
def QF(p:Int)(V:o7)(L:l9):o7:=if GA p V L=true then UA p.toNat else []
def QE(p:Int)(V:o7)(L:l9):o3:=if GA p V L=true then N8 V L else []
def rV(w:J)(base:Nat)(e:Ending)(A:o4)(B:o7)(C:o3)(ok:Bool):Prop :=
 ∃va vb vc vs,e=atn (.tuple #[.agg #[va,vb,vc],ato ok])/\E8 w base va vs/\bG w base vs A/\y9 w base vb B/\ZM w base vc C/\Ju vs vb
theorem wY(hn:Lp V=n)(h1:1<=n)(K:∀f∈L,1<=f.1/\f.1+2<=n):∀c∈ec V L,(c.2.1=1∨c.2.1=-1)/\0<=c.1/\c.1<=n:=by
 intro c hc;unfold ec at hc;simp only[Pm]at hc;rcases hc with(hc|hc)|hc
 ·obtain⟨s,hs,rfl⟩:=xl.1 hc;have:=lN hs;exact⟨.inl rfl,by simp only;omega,by simp only;omega⟩
 ·have⟨f,H,G⟩:=Wa.1 hc;have:=K f H;simp only[I2,OI,R5,QJ]at G;rcases G with rfl|rfl
  ·exact⟨.inl rfl,by simp only;omega,by simp only;omega⟩
  exact⟨.inr rfl,by simp only;omega,by simp only;omega⟩
 simp only[I2,OI,R5,QJ]at hc;rcases hc with rfl|rfl
 ·exact⟨.inl rfl,by simp only;omega,by simp only;omega⟩
 exact⟨.inr rfl,by simp only;omega,by simp only;omega⟩
theorem Dj(V:o7)(L:l9):Lp (ec V L)<=Lp V+2*Lp L+2:=by
 unfold ec;have:=eJ L (Lp V-2);rw[ar,ar,ep,fT];simp only[I2,mg,D1];omega
theorem Te{q:Nat}{b:Bool}(h:b=decide (k=q)):((k:Int) == (q:Int))=b:=by
 subst h;by_cases e:k=q
 ·subst e;simp
 rw[RK e];simp;omega
theorem ou{α β:Type}(f:α->β){l:List α}{x:α}(h:l[k]?=some x):(l.take k).map f++[f x]=(l.take (k+1)).map f:=by rw[fX h];simp
theorem EO{p:Int}{cap:Nat}(hV:d6 w a n cap V){fa:o6}{fn:Nat}(h:IF w fa fn Km L)(hfn:fn<=1048576):
 Calls prog 181 #[Id p a n cap,.slice fa fn Km] w λe w' =>
  rV w' w.heap.size e (QG p V L) (QF p V L) (QE p V L) (GA p V L)/\D4 w w':=by
 obtain⟨W,hW⟩:=j7 ((w.alloc (.cells #[.int .i64 p,.slice a n cap] 31)).alloc (.cells #[.slice none 0 0,.slice none 0 0,.slice none 0 0] 124));have Fp:=I (show W.heap.size=w.heap.size+2 by rw[hW];simp);have B4:=I (show D4 w W by rw[hW];exact(D4.alloc _ _).trans (D4.alloc _ _));have P9:=I (show W.cell? ⟨w.heap.size,1,none⟩=some (.slice a n cap)by rw[hW];simp);have OR:=I (show W.cell? ⟨w.heap.size,0,none⟩=some (.int .i64 p)by rw[hW];simp);have Uj:=I (show W.heap[w.heap.size+1]?=some (.cells #[.slice none 0 0,.slice none 0 0,.slice none 0 0] 124 (0,0))by rw[hW];exact ah _ _ _ j9);have HVL:=I hV.hlen;have PI:=hV.y7;have PH:=hV.y8;have ZD:=h.y7;have ZC:=h.y8;have IP:=I h.hlen;have HF:=I (h.ext B4.o);have Kx:=I (hV.ext B4.o);have HC:=I (EQ (p:=p) (hV.ext B4.o) (h.ext B4.o) hfn);clear h hV;cases hg:eR p V L
 ·have HG:=I (show GA p V L=false by unfold GA;rw[hg];rfl);rw[hg,hW]at HC;clear hg;go_in
  go_wp2_with rfl;refine HC.o.mono ?_;rw[<-hW];rintro e w1 ⟨rfl,B0⟩;have FH:w1.cell? ⟨w.heap.size+1,0,none⟩=some (.slice none 0 0):=by rw[UV w1 _ 0 _ _ _ ((B0.block _ XD).trans Uj.o)];rfl
  have FL:w1.cell? ⟨w.heap.size+1,1,none⟩=some (.slice none 0 0):=by rw[UV w1 _ 1 _ _ _ ((B0.block _ XD).trans Uj.o)];rfl
  have Hs:w1.cell? ⟨w.heap.size+1,2,none⟩=some (.slice none 0 0):=by rw[UV w1 _ 2 _ _ _ ((B0.block _ XD).trans Uj.o)];rfl
  have JR:∀j,w1.frozen? ⟨w.heap.size+1,j,none⟩=false:=λj=>fy w1 _ j _ _ ((B0.block _ XD).trans Uj.o)
  have A6:=I (B4.o.trans B0);have NH:=B0.size;rw[Fp.o]at NH;clear B0;go_wp2_with rfl;refine GE jl rfl ⟨⟨_,_,_,[],by rw[HG.o],E8.nil _ _,?_,?_,?_,Ju.nil _⟩,?_⟩
  ·unfold QG;rw[HG.o,f8 j9];exact bG.nil _ _
  ·unfold QF;rw[HG.o,f8 j9];exact y9.nil _ _
  ·unfold QE;rw[HG.o,f8 j9];exact ZM.nil _ _
  exact((A6.o.setCell j9 _).setCell j9 _).setCell j9 _
 have hgo:ak p V=true/\2<=p/\M9 L ((V.length:Int)-2) L.length=true:=by
  unfold eR at hg;simp only[cM,cq]at hg;exact⟨hg.1,hg.2.1,hg.2.2.1⟩
 obtain⟨q,rfl,h1,h5,hlen,_,Ha⟩:=ap hgo.1;have h2q:2<=q:=O;have Qq:4<=n:=by have:=U0 h2q h5;rw[<-HVL.o,hlen];exact this
 have IU:n<=32:=by have:=bp q h5;rw[<-HVL.o,hlen];exact this.2
 have hLb:∀f∈L,1<=f.1/\f.1+2<=n:=λf hf=>by have:=Yh hgo.2.2 f hf;have:=HVL.o;omega
 have MS:=I (λ(w1:J) (hx:D4 W w1)=>yV (w:=w1) (q:Int) (Kx.o.ext hx) Ha O O (HF.o.ext hx) hLb hfn);have HOKS:=I (show GA (q:Int) V L=Hf (N8 V L)by unfold GA;rw[hg];rfl);obtain⟨A',J5⟩:=j7 (ec V L);have Jz:=I (wY HVL.o O hLb);have aeb:=I (Dj V L);rw[<-J5]at MS Jz aeb;have afg:=I J5;rw[hg,hW]at HC;clear hg hgo hlen Ha hLb J5;go_in
 go_wp2_with rfl;refine HC.o.mono ?_;rw[<-hW];clear hW;rintro e w1 ⟨rfl,B0⟩;have A6:=I B0;have Fo:=B0.o9 OR.o;have FQ:=B0.o9 P9.o;clear B0;go_wp2_with rfl;clear Fo FQ;refine PP (MS.o w1 A6.o) λw2 vcs hoc C9=>?_;obtain⟨ac,m,cc,rfl,hm⟩:=hoc.var;have HM:=I hm.out;have C7:=I (A6.o.trans C9);have J0:=C7.o.size;rw[Fp.o]at J0;have Ns:=I ((hoc.mono (base':=w.heap.size+2) (by have:=A6.o.size;rw[Fp.o]at this;omega)).ext (D4.alloc w2 (.cells #[.slice none 0 0,.slice none 0 0,.slice none 0 0] 124)));have akH:=hoc.JG.y7;have akF:=hoc.JG.y8;have hmb:m<=3000000:=by have h1:=aeb.o;have h2:=HM.o;have h3:=HVL.o;have h4:=IP.o;omega
 have Pt:=I (D5.new (w:=w2) (base:=w.heap.size+2) J0);clear hoc hm C9;go_wp2_with rfl
 go_loopg [8] (q+1) (λgk ii wr=>∃(k:Nat) (va vb:atY) (vs:List atY),e9 (gk+k=q+1)/\ii=.int .i64 (k:Int)/\e9 (D5 wr (w.heap.size+2) w2.heap.size va vb (.slice none 0 0) vs ((List.range k).map (JV A' q)) ((List.range k).map λk=>Fv (decide (k=q))) [])/\e9 (A9 PZ 224 wr (w.heap.size+2) (.slice ac m cc) A')/\e9 (D4 W wr))
 case atStart=>exact⟨0,_,_,_,I O,rfl,Pt,Ns,I (C7.o.trans (D4.alloc _ _))⟩
 rename Nat=>g1;rename J=>A1;obtain⟨k,va,vb,vs,HK,rfl,GD,Ho,HX⟩:=hrel;have Nd:=HX.o.size;rw[Fp.o]at Nd;have T8:A1.cell? ⟨w.heap.size,0,none⟩=some (.int .i64 (q:Int)):=HX.o.o9 OR.o;obtain⟨aA,nA,cA,rfl,U8⟩:=GD.o.a.var;obtain⟨aB,nB,cB,rfl,VT⟩:=GD.o.b.var;by_cases Vy:k<=q
 ·have HO1:=I (y9.Ft A1 A1.heap.size _ rfl (m9 _));go_wp2_with rfl
  go_loopg [9,10] m (λgk row jj wr=>∃(j:Nat) (a1:o6) (n1 p1:Nat),e9 (gk+j=m)/\jj=.int .i64 (j:Int)/\row=.slice a1 n1 p1/\e9 (y9 wr A1.heap.size (.slice a1 n1 p1) (JV (A'.take j) q k))/\e9 (D4 A1 wr))
  case atStart=>exact I1
  obtain⟨j,a1,n1,p1,HJ,rfl,rfl,U7,G⟩:=hrel;have MC:=G.o.size;have hcp2:=G.o.o9 T8;by_cases Nh:j<m
  ·obtain⟨cb,No,⟨c0,sg,fr,cx,cy⟩,hca,OF,Z⟩:=(Ho.o.ext G.o).JG.at Nh;subst hca;have k0:wr.cell? ⟨cb,No+j*5,none⟩=some (.int .i64 c0):=Z 0 _ rfl;have k1:wr.cell? ⟨cb,No+j*5+1,none⟩=some (.int .i64 sg):=Z 1 _ rfl;have k2:wr.cell? ⟨cb,No+j*5+2,none⟩=some (.bool fr):=Z 2 _ rfl;have Nx:=Jz.o (c0,sg,fr,cx,cy) (MV OF);simp only at Nx;obtain⟨LQ,hc00,hc0n⟩:=Nx;have MY:=I LQ;obtain⟨on,hon⟩:=j7 (Yi q k (c0,sg,fr,cx,cy));have Ip:=I hon;have H7:=I (show JV (A'.take j) q k++[sg*Fv on]=JV (A'.take (j+1)) q k by rw[hon];exact ou _ OF);have GN:=I (show(JV (A'.take j) q k).length<=3000000 by unfold JV;rw[b7,jt];have:=HM.o;omega);have NZ:=I (show some cb≠(Value.slice a1 n1 p1).ownBlock from λe=>aD (e:=3) (e':=224) FS U7.o (Ho.o.ext G.o) cb e.symm rfl);clear Z OF hon LQ;go_upto_if 43 with rfl
   go_cut [11] (λbb wx=>bb=.bool on/\e9 (D4 wr wx))
   case first =>
    by_cases hlt:k<q
    ·have Wf:Ia c0 (k:Int)=on:=by rw[Ip.o];unfold Yi;rw[i7 hlt]
     go_wp2_with (first|(go_at_call 173;refine(bE _ _ _ O).mono ?_;rw[Wf];rintro e w' ⟨rfl,rfl⟩));go_meet;exact⟨rfl,I (D4.refl _)⟩
    have NO:fr=on:=by rw[Ip.o];unfold Yi;rw[f8 hlt]
    subst NO;go_wp2_with rfl;go_meet;exact⟨rfl,I (D4.refl _)⟩
   obtain⟨rfl,LF⟩:=hcut;replace k1:=LF.o.o9 k1;have r7:D4 A1 wc.drew:=(G.o.trans LF.o).trans (D4.drew _);have hmul:IntKind.i64.wrap (sg*Fv on)=sg*Fv on:=by
    rw[j0];have h1:=MY.o;cases on<;>rcases h1 with rfl|rfl<;>decide
   have r8:=I (λ(w':J) (h:D4 A1 w') (h1:w'.cell? ⟨cb,No+j*5+1,none⟩=some (.int .i64 sg))=>(⟨h1,h⟩:w'.cell? ⟨cb,No+j*5+1,none⟩=some (.int .i64 sg)/\D4 A1 w'));have HROC:=I (U7.o.ext LF.o);have Ij:=D4.drew wc;have hkA:D4 wc (wc.alloc (.cells #[.int .i64 (sg*Fv on)] 3)).drew:=(D4.alloc _ _).trans (D4.drew _);have U2:=I (G.o.trans LF.o);have QK:=U2.o.size;have ahy:=I k1;clear k0 k2 r7;go_wp2_with rfl
   go_region_held3 (λw'=>w'.cell? ⟨cb,No+j*5+1,none⟩=some (.int .i64 sg)/\D4 A1 w')
    (first
      | with_reducible exact r8.o _ (U2.o.trans Ij) (Ij.o9 ahy.o)
      | with_reducible exact r8.o _ (U2.o.trans hkA) (hkA.o9 ahy.o)
      | with_reducible exact r8.o _ OE hc5)
    (first
      | ((with_reducible refine(fN _ _).mono ?_)
         rintro e w4 ⟨rfl,rfl⟩)
      | (refine bU _ l7 ?_
         refine aO _ _ l7 A1.heap.size (.slice a1 n1 p1) _ l7 (HROC.o.ext hkA) _ 1 _ [sg*Fv on] l7 ((d6.JH wc _ _ _ rfl).ext (D4.drew _)) (l8 GN.o) t8 ?_;intro v5 w5 ho hg r';have hc5:=hg.cell (hkA.o9 ahy.o) NZ.o;obtain⟨a5,n5,p5,rfl,JU⟩:=ho.var;have Fj:=I ho;have OE:=aj (w0:=A1) (U2.o.trans hkA) hg (λj hj=>(HROC.o.lt j hj).1);clear ho hg r')
      | fail)
   have X5:=I OE;clear OE hc5 hkA;clear Ij;go_wp2_with rfl;refine sq ?_;exact⟨j+1,a5,n5,p5,I (l8 HJ.o),by go_num,rfl,I U5,X5⟩
  have PJ:j=m:=l8 HJ.o;subst PJ;have HT:=I (show A'.take j=A' from aP (by rw[HM.o];exact m9 _));rw[HT.o]at U7;have FF:=I (GD.o.ext G.o);have I7:=FF.o.c0;have Lw:=I (show vs.length<=6 by rw[GD.o.rows.len,b7,PS];omega);have VO:=I (Ho.o.ext G.o);have XR:=I (HX.o.trans G.o)
  go_wp2_with (first
   | (at_builtin;refine fd rfl _ _ rfl (w.heap.size+2) (.slice aA nA cA) vs rfl (FF.o.a.ext (D4.alloc _ _)) _ _ 1 rfl E5 rfl (l8 Lw.o) t8 ?_;intro v6 w6 ho hg r';have Qf:=I (GD.o.M8 (G.o.trans (D4.alloc _ _)) (U7.o.ext (D4.alloc _ _)) O hg ho r');have Oj:=FF.o.QU (D4.alloc _ _) hg;have hc6:=D5.G9 Oj;have hf6:=D5.Hv Oj 0;have HOK6:=I ((VO.o.IA (D4.alloc _ _) FF.o.a FS hg).Xk Oj FS 0 v6);have X6:=I (((XR.o.trans (D4.alloc _ _)).grown hg (λj hj=>by rw[Fp.o];exact(GD.o.a.lt j hj).1)).store (b:=w2.heap.size) 0 (by rw[Fp.o];exact J0) v6);obtain⟨a6,n6,p6,rfl,Jy⟩:=ho.var;clear ho hg r' Oj))
  have hcp7:=D4.o9 X6.o OR.o;have hb7:=Qf.o.c1;clear hc6 hf6 I7 hcp2;obtain⟨w7,Ie⟩:=j7 (w6.setCell ⟨w2.heap.size,0,none⟩ (.slice a6 n6 p6));have HOK7:=I (show A9 PZ 224 w7 (w.heap.size+2) (.slice ac j cc) A' by rw[Ie];exact HOK6.o);rw[<-Ie]at Qf X6 hcp7 hb7;rw[<-Ie];clear Ie;have hglt:=Qf.o.lt;have hsz7:=X6.o.size;rw[Fp.o]at hsz7;obtain⟨bq,hbq⟩:=j7 (decide (k=q));have hbe:((k:Int) == (q:Int))=bq:=Te hbq;have HBQ:=I hbq;have LH:=I (show((List.range k).map λk=>Fv (decide (k=q))).length<=6 by simp;omega);clear hbq
  go_region_law (first
   | (refine bU _ rfl (aO _ _ rfl (w.heap.size+2) (.slice aB nB cB) _ rfl ((Qf.o.b.ext (D4.alloc _ _)).ext (D4.drew _)) _ 1 _ [Fv bq] rfl ((d6.JH _ _ _ _ rfl).ext (D4.drew _)) (l8 LH.o) t8 ?_);intro v8 w8 ho hg r';have XA:=(D4.alloc w7 (.cells #[.int .i64 (Fv bq)] 3)).trans (D4.drew _);have KV:=I (Qf.o.pushB XA hg ho r');have Nl:=Qf.o.QT XA hg;have hc8:=D5.G8 Nl;have hf8:=D5.Hv Nl 1;have ahm:=I ((HOK7.o.ZV XA Qf.o.b FS hg).Xk Nl FS 1 v8);have X8:=I (((X6.o.trans XA).grown hg (λj hj=>by rw[Fp.o];exact(Qf.o.b.lt j hj).1)).store (b:=w2.heap.size) 1 (by rw[Fp.o];exact J0) v8);obtain⟨a8,n8,p8,rfl,OU⟩:=ho.var;clear ho hg r' Nl)
   | (go_simp;go_at_call 249;refine cR (fN _ _) ?_))
  all_goals
   go_wp2;refine gy ?_;exact⟨k+1,_,_,_,I (l8 HK.o),by go_num,I (by rw[mr,rN,rN];have:=KV.o;rw[HBQ.o]at this;exact this),ahm,X8⟩
 have hkq':k=q+1:=l8 HK.o;have hnkq:¬((k:Int)<=(q:Int)):=O;subst hkq';obtain⟨AA,hAA⟩:=j7 ((List.range (q+1)).map (JV A' q));obtain⟨BB,A7⟩:=j7 ((List.range (q+1)).map λk=>Fv (decide (k=q)));rw[<-hAA,<-A7]at GD;have HAA:=I (show AA=G4 q V L by rw[hAA,afg.o];rfl);have Hy:=I (show BB=UA q from A7);clear hAA A7;go_wp2_with rfl
 go_loopg [12] m (λgk jj wr=>∃(j:Nat) (vc:atY),e9 (gk+j=m)/\jj=.int .i64 (j:Int)/\e9 (D5 wr (w.heap.size+2) w2.heap.size (.slice aA nA cA) (.slice aB nB cB) vc vs AA BB ((A'.take j).map λc=>c.2.2.2))/\e9 (A9 PZ 224 wr (w.heap.size+2) (.slice ac m cc) A')/\e9 (D4 W wr))
 case atStart=>exact⟨0,_,I O,rfl,GD,Ho,HX⟩
 obtain⟨j,vc,HJ,rfl,Qz,C8,G⟩:=hrel;have MC:=G.o.size;rw[Fp.o]at MC;have hglt:=Qz.o.lt;have F0:=Qz.o.c2;obtain⟨aC,nC,cC,rfl,HNC⟩:=Qz.o.c.var;by_cases Nh:j<m
 ·obtain⟨cb,No,⟨c0,sg,fr,cx,cy⟩,hca,OF,Z⟩:=C8.o.JG.at Nh;subst hca;have k3:wr.cell? ⟨cb,No+j*5+3,none⟩=some (.int .i64 cx):=Z 3 _ rfl;have k4:wr.cell? ⟨cb,No+j*5+4,none⟩=some (.int .i64 cy):=Z 4 _ rfl;have K6:cb<wr.heap.size:=vM _ _ k3;have H7:=I (show((A'.take j).map λc=>c.2.2.2)++[(cx,cy)]=(A'.take (j+1)).map λc=>c.2.2.2 from ou (λc:V9=>c.2.2.2) OF);have GN:=I (show((A'.take j).map λc=>c.2.2.2).length<=3000000 by rw[b7,jt];have:=HM.o;omega);clear Z OF;go_wp2_with rfl
  go_region_law (first
   | (refine bU _ rfl (dw _ _ rfl (w.heap.size+2) (.slice aC nC cC) _ rfl ((Qz.o.c.ext (D4.alloc _ _)).ext (D4.drew _)) _ 1 _ [(cx,cy)] rfl ((i8.one' _ _ _ _ _ rfl).ext (D4.drew _)) (l8 GN.o) t8 ?_);intro v8 w8 ho hg r';have XA:=(D4.alloc wr (.cells #[.int .i64 cx,.int .i64 cy] 80)).trans (D4.drew _);have KV:=I (Qz.o.UC XA hg ho);have Nl:=Qz.o.adz XA hg;have hc8:=D5.Hw Nl;have hf8:=D5.Hv Nl 2;have ahm:=I ((C8.o.ZU XA Qz.o.c FS hg).Xk Nl FS 2 v8);have X8:=I (((G.o.trans XA).grown hg (λj hj=>by rw[Fp.o];exact(Qz.o.c.lt j hj).1)).store (b:=w2.heap.size) 2 (by rw[Fp.o];exact J0) v8);obtain⟨a8,n8,p8,rfl,OU⟩:=ho.var;clear ho hg r' Nl))
  all_goals
   go_wp2;refine sq ?_;exact⟨j+1,_,I (l8 HJ.o),by go_num,I (by rw[<-H7.o];exact KV.o),ahm,X8⟩
 have PJ:j=m:=l8 HJ.o;subst PJ;have HT:=I (show(A'.take j).map (λc=>c.2.2.2)=N8 V L by
  rw[aP (by rw[HM.o];exact m9 _),afg.o];rfl)
 rw[HT.o]at Qz;have Rm:=I (kA Qz.o.c.rats);have LS:(w.heap.size+1)<W.heap.size:=by rw[Fp.o];omega
 have E6:=I (λ(w':J) (hx:D4 W w')=>(hx.block _ LS).trans Uj.o);clear F0;cases Rg:Hf (N8 V L)
 ·have Jn:=I (show GA (q:Int) V L=false by rw[HOKS.o,Rg]);rw[Rg]at Rm;clear Rg;have F0:=Qz.o.c2;go_wp2_with rfl;refine i6 Rm λw4 E4=>?_;have FH:=D5.G9 (E6.o w4 (G.o.trans E4));have FL:=D5.G8 (E6.o w4 (G.o.trans E4));have Hs:=D5.Hw (E6.o w4 (G.o.trans E4));have JR:=D5.Hv (E6.o w4 (G.o.trans E4));have XF:=I (B4.o.trans (G.o.trans E4));clear E4;go_wp2_with rfl;refine GE jl rfl ⟨⟨_,_,_,[],by rw[Jn.o],E8.nil _ _,?_,?_,?_,Ju.nil _⟩,?_⟩
  ·unfold QG;rw[Jn.o,f8 j9];exact bG.nil _ _
  ·unfold QF;rw[Jn.o,f8 j9];exact y9.nil _ _
  ·unfold QE;rw[Jn.o,f8 j9];exact ZM.nil _ _
  exact((XF.o.store 0 O _).store 1 O _).store 2 O _
 have Ui:=I (show GA (q:Int) V L=true by rw[HOKS.o,Rg]);rw[Rg]at Rm;clear Rg;have F0:=Qz.o.c2;go_wp2_with rfl;refine i6 Rm λw4 E4=>?_;have FH:=D5.G9 (E6.o w4 (G.o.trans E4));have FL:=D5.G8 (E6.o w4 (G.o.trans E4));have Hs:=D5.Hw (E6.o w4 (G.o.trans E4));have JR:=D5.Hv (E6.o w4 (G.o.trans E4));have K:=I (Qz.o.ext E4);have Pe:=K.o.c0;have RA:=K.o.c1;have VC:=K.o.c2;have hgl4:=K.o.lt;have XF:=I (B4.o.trans (G.o.trans E4));clear E4 F0;go_wp2_with rfl;refine GE jl rfl ⟨⟨_,_,_,vs,by rw[Ui.o],?_,?_,?_,?_,K.o.off⟩,?_⟩
 ·exact(((((E8.on K.o.a).set j9 _).set j9 _).set j9 _).here).mono' O
 ·unfold QG;rw[Ui.o,i7 rfl,eI,<-HAA.o];exact(((((bG.on K.o.rows).set j9 _).set j9 _).set j9 _).here).mono' O
 ·unfold QF;rw[Ui.o,i7 rfl,eI,<-Hy.o];exact(((((y9.on K.o.b).set j9 _).set j9 _).set j9 _).here).mono O
 ·unfold QE;rw[Ui.o,i7 rfl];exact(((((ZM.on K.o.c).set j9 _).set j9 _).set j9 _).here).mono O
 exact((XF.o.store 0 O _).store 1 O _).store 2 O _
def iZ(L:l9):Nat:=L.foldl (λa f=>a ||| 2^f.1.toNat) 0
theorem CQ(h:k<Lp L):iZ (L.take (k+1))=iZ (L.take k) ||| 2^(L[k]?.getD (0,0,0)).1.toNat:=by
 unfold iZ;rw[kF h,VP];rfl
theorem EZ(c:Nat):∀(L:l9),(∀f∈L,0<=f.1)->(iZ L).testBit c=Iz L (c:Int):=by
 have G:∀(L:l9) (s:Nat),(∀f∈L,0<=f.1)->(L.foldl (λa f=>a ||| 2^f.1.toNat) s).testBit c=(s.testBit c||Iz L (c:Int)):=by
  intro L
  induction L with
  | nil=>intro s _;simp[Iz]
  | cons f L ih =>
    intro s h;rw[kc,ih _ (λg hg=>h g (dr _ hg)),Nat.testBit_or,Nat.testBit_two_pow];have h0:=h f Zd;have:decide (f.1.toNat=c)=(f.1 == (c:Int)):=by rw[uu];simp;omega
    rw[this];simp only[Iz,List.any_cons,Bool.or_assoc]
 intro L h;have:=G L 0 h
 simpa[iZ]using this
theorem Xl:∀(L:l9),(∀f∈L,f.1<=30)->iZ L<2^31:=by
 have G:∀(L:l9) (s:Nat),s<2^31->(∀f∈L,f.1<=30)->L.foldl (λa f=>a ||| 2^f.1.toNat) s<2^31:=by
  intro L
  induction L with
  | nil=>intro s hs _;exact hs
  | cons f L ih =>
    intro s hs h;have h0:=h f Zd;exact ih _ (gp hs (Nat.pow_lt_pow_right O O)) λg hg=>h g (dr _ hg)
 exact λL h=>G L 0 FS h
theorem Qh(s k:Nat):M2 (s:Int) k=s.testBit k:=by
 unfold M2;rw[Nat.testBit_eq_decide_div_mod_eq,uu];have:(s:Int)/2^k=((s/2^k:Nat):Int):=j9;rw[this];simp only[cq];omega
theorem Qi{s:Nat}(hs:s<2^31)(hk:k<=30):bits .or .i64 (s:Int) (2^k)=((s ||| 2^k:Nat):Int):=by
 have h2:2^k<2^31:=Nat.pow_lt_pow_right O O;have:=Hv s (2^k) O O;rw[<-this];congr 1
theorem XX(k:Nat)(h:k<=30):(1:Int)<=2^k/\(2:Int)^k<=1073741824:=by
 have h1:2^k<=2^30:=cC O h;have h2:0<2^k:=Nat.pow_pos O;have G:((2^k:Nat):Int)=(2:Int)^k:=j9;rw[<-G];omega
def I8:kf (Int×Int×Int):=⟨λx=>[U x.1,U x.2.1,U x.2.2],3,λ_=>rfl,by omega,λx u h=>by simp only[OI,R5,QJ]at h;rcases h with rfl|rfl|rfl<;>rfl⟩
theorem IF.JG{cap:Nat}(h:IF w a n cap l):ID I8 w a n cap l :=
 ⟨h.hlen,h.y7,h.y8,λk K=>by
  have⟨b,off,e,hc⟩:=h.cell k K;refine⟨b,off,e,λk x j v hx H=>?_⟩;have Q:=(Ls.1 hx).1;have G:=hc k (by rw[<-h.hlen];exact Q);rw[hx]at G;simp only[NE]at G
  match j with
  | 0 =>
     obtain rfl:Value.int .i64 x.1=v:=by simpa[I8]using H
     exact G.1
  | 1 =>
     obtain rfl:Value.int .i64 x.2.1=v:=by simpa[I8]using H
     exact G.2.1
  | 2 =>
     obtain rfl:Value.int .i64 x.2.2=v:=by simpa[I8]using H
     exact G.2.2
  | j+3=>simp[I8]at H⟩
theorem ID.SL{cap:Nat}(h:ID I8 w a n cap l):IF w a n cap l :=
 ⟨h.hlen,h.y7,h.y8,λk G=>by
  have⟨b,off,e,hc⟩:=h.cell k G;refine⟨b,off,e,λk G=>?_⟩;have H:k<Lp l:=by rw[h.hlen];exact G
  have hx:=In H;rw[hx];exact⟨hc k _ 0 _ hx rfl,hc k _ 1 _ hx rfl,hc k _ 2 _ hx rfl⟩⟩
theorem Tryz.O8:(prog.info? 137).map (λi=>(i.zero,i.size,i.bytes))=some (some (.agg #[U 0,U 0,U 0]),I8.c,24):=by kernel_rfl
theorem Bm{cap:Nat}(h:IF w a n cap l)(hb:n<=1099511627776):
 Calls prog 212 #[FB a n cap] w λe w'=>∃v,e=atn v/\A9 I8 137 w' w v l/\D4 w w':=by
 have heq:∀w':J,(binOp .eql 87 (FB a n cap) d9).run prog w'=.ok (ato a.isNone) w':=λw'=>Pb w' _ _ a n cap 0 0 Vz
 have HL:=I h.hlen;cases a with
 | none =>
   have hl:l=[]:=by
    exact Y8
   exact Tf
 | some ad =>
   simp only[Tg]at heq;have K:=I ((h.ext (D4.alloc w (SH #[] 137))).JG);have H:=I (A9.Ft I8 137 w w _ rfl (m9 _));go_in
   go_wp2_with (at_builtin;refine dt I8 Tryz.O8 rfl Vz FS rfl _ _ rfl w _ _ rfl H.o _ n _ l rfl K.o T4 j9 ?_;intro v' w1 ho hg r');go_ret;exact⟨_,rfl,ho,ZL.grown hg (λk G=>sw (iv (show some w.heap.size=some k from G)))⟩
def KK(n:Nat)(L:l9):l9:=L++[((n:Int)-1,0,1)]
theorem Fe{v:Int}(h:-500<=v/\v<=500):FD (0,1) (v,1)=((-v,1),true):=by
 have K:A5 (0,1)=true:=by decide
 have H:A5 (v,1)=true:=pU O O U9 U9 ZE;unfold FD;rw[K,H];simp only[Bool.and_self,G6];rw[show(0:Int)*1-v*1=-v by omega,show(1:Int)*1=1 by rfl];have G:A5 (-v,1)=true:=pU O O U9 U9 ZE;have hg:gI (-v) 1=1:=by rw[kS];simp
 unfold aN;rw[f8 (by simp[A8];omega),f8 O,hg];simp only[Int.tdiv_one];unfold Ik;rw[i7 G]
theorem zJ(hn:Lp V=n)(h1:1<=n)(G:∀y∈V,-500<=y/\y<=500):iw V ((n:Int)-1,0,1)=(-(V[n-1]?.getD 0),1):=by
 have hb:=du G (n-1);unfold iw;simp only;rw[show((n:Int)-1).toNat=n-1 by omega,Fe hb]
theorem mT(G:Lp V=n)(K:1<=n)(H:∀y∈V,-500<=y/\y<=500)(L:l9):bS V (bC L (n-2))++aZ V (KK n L)=ec V L:=by
 have Q:aZ V (KK n L)=aZ V L++I2 ((n:Int)-1) (iw V ((n:Int)-1,0,1)):=by
  unfold KK aZ;rw[Vs];simp
 rw[Q,zJ G K H];unfold ec;rw[G,vl]
def Ub(V:o7)(f:Int×Int×Int):Bool:=(FD f.2 (V[f.1.toNat]?.getD 0,1)).2
theorem W7{a b:o8}(h:(FD a b).2=true):A5 (FD a b).1=true:=by
 unfold FD at h⊢;split at h
 ·next h1=>rw[i7 h1];exact jR h
 simp at h
theorem NN{a b:o8}(h:(FD a b).2=false):(FD a b).1=(0,0):=by
 unfold FD at h⊢;split at h
 ·next h1=>rw[i7 h1];exact LY h
 next h1=>rw[f8 h1]
theorem WO{v:Int}(h:-1000000000<=v/\v<=1000000000):A5 (v,1)=true:=pU j9 j9 U9 U9 ZE
theorem CX(K:Lp V=n)(h1:1<=n)(H:∀y∈V,-500<=y/\y<=500):Hf (N8 V L)=(KK n L).all (Ub V):=by
 have h0:N8 V L=(bS V (bC L (n-2))).map (λc=>c.2.2.2)++(KK n L).flatMap λf=>[iw V f,(-(iw V f).1,(iw V f).2)]:=by
  unfold N8;rw[<-mT K h1 H,rN];congr 1;unfold aZ;rw[List.map_flatMap];rfl
 have Z:((bS V (bC L (n-2))).map λc=>c.2.2.2).all A5=true:=by
  rw[fp];intro x hx;obtain⟨c,hc,rfl⟩:=xl.1 hx;obtain⟨s,_,rfl⟩:=xl.1 hc;have:=du H s.toNat;exact WO O
 unfold Hf;rw[h0,p7,Z,wq,List.all_flatMap];congr 1
 funext f
 unfold Ub;cases G:(FD f.2 (V[f.1.toNat]?.getD 0,1)).2
 ·have:=NN G;unfold iw;rw[this];decide
 have:=W7 G;have Q:=lD (FD f.2 (V[f.1.toNat]?.getD 0,1)).1.1 (FD f.2 (V[f.1.toNat]?.getD 0,1)).1.2;unfold iw;simp only[Zc,UF,JD];rw[Q,this];rfl
def dV(m j:Nat)(r:o7):o7:=r.mapIdx λi x=>if m<i/\(i-m) % 2=1/\i<j then -x else x
theorem Ed(m j:Nat)(r:o7):Lp (dV m j r)=Lp r:=by simp[dV]
theorem Ym{j:Nat}(h:i<Lp r):(dV m j r)[i]?.getD 0=if m<i/\(i-m) % 2=1/\i<j then -(r[i]?.getD 0) else r[i]?.getD 0:=by
 simp[dV,h]
theorem zZ(m:Nat)(r:o7):dV m (m+1) r=r:=by
 apply Pl (by simp[dV]);intro i h1 h2;simp only[dV,ti];rw[f8 O]
theorem Co{t:Nat}(h:m+1+2*t<Lp r):(dV m (m+1+2*t) r).set (m+1+2*t) (-(r[m+1+2*t]?.getD 0))=dV m (m+1+2*(t+1)) r:=by
 apply Pl (by simp[dV]);intro i h1 G;rw[Y3];simp only[dV,ti];simp only[dV,L1]at G;split
 ·next e=>subst e;rw[i7 O,In h];rfl
 next e =>
 by_cases hc:m<i/\(i-m) % 2=1/\i<m+1+2*t
 ·rw[i7 hc,i7 O]
 rw[f8 hc,f8 O]
theorem Ec{j:Nat}(h:Lp r<=j):dV m j r=dV m (Lp r) r:=by
 apply Pl (by simp[dV]);intro i h1 G;simp only[dV,ti];simp only[dV,L1]at G;by_cases hc:m<i/\(i-m) % 2=1
 ·rw[i7 ⟨hc.1,hc.2,by omega⟩,i7 ⟨hc.1,hc.2,by omega⟩]
 rw[f8 O,f8 O]
theorem sE(V:o7):∀(E:l9) (i:Nat) (c:V9),(aZ V E)[i]?=some c->c.2.1=if i % 2=1 then -1 else 1
 | [],i,c,h=>by simp[aZ]at h
 | f::E,0,c,h=>by
   simp only[aZ,Rv,I2,Px,Up,Pi]at h;subst h;rfl
 | f::E,1,c,h=>by
   simp only[aZ,Rv,I2,Px,OX,Up,Pi]at h;subst h;rfl
 | f::E,i+2,c,h=>by
   simp only[aZ,Rv,I2,Px,Nl,OX]at h;have:=sE V E i c h;rw[this];have:(i+2) % 2=i % 2:=O
   rw[this]
theorem Bz(V:o7)(E:l9):∀c∈aZ V E,c.2.2.1=false:=by
 intro c hc;obtain⟨f,_,G⟩:=Wa.1 hc;simp only[I2,OI,R5,QJ]at G;rcases G with rfl|rfl<;>rfl
theorem Yl(V:o7)(G:o7)(E:l9)(q k:Nat)(Q:k<q):
 dV (Lp G) (Lp ((bS V G++aZ V E).map (·.1))) (D8 ((bS V G++aZ V E).map (·.1)) k)=JV (bS V G++aZ V E) q k:=by
 apply Pl (by simp[dV,D8,JV]);intro i h1 H;simp only[JV,b7]at H;simp only[dV,D8,JV,ti,gz,b7];unfold Yi;rw[i7 Q];by_cases hi:i<Lp G
 ·rw[f8 O];have:(bS V G++aZ V E)[i].2.1=1:=by
   rw[List.getElem_append_left (by rw[ep];exact hi)];simp[bS]
  rw[this];omega
 have K:=ep V G;have hb:i-(bS V G).length<Lp (aZ V E):=by rw[ar]at H;omega
 have e:(bS V G++aZ V E)[i]=(aZ V E)[i-(bS V G).length]:=List.getElem_append_right O;have hs:=sE V E (i-(bS V G).length) _ (In hb);rw[<-e,K]at hs;rw[hs];by_cases hc:(i-G.length) % 2=1
 ·rw[i7 ⟨by omega,hc,H⟩,i7 hc];omega
 rw[f8 O,f8 hc];omega
theorem xW(V:o7)(G:o7)(E:l9)(q:Nat):List.replicate (Lp G) 1++List.replicate (2*Lp E) 0=JV (bS V G++aZ V E) q q:=by
 unfold JV;rw[rN];congr 1
 ·refine(nm.2 ⟨by rw[b7,ep],λx hx=>?_⟩).symm;obtain⟨c,hc,rfl⟩:=xl.1 hx;obtain⟨s,_,rfl⟩:=xl.1 hc;simp[Yi,Fv]
 refine(nm.2 ⟨by rw[b7,fT],λx hx=>?_⟩).symm;obtain⟨c,hc,rfl⟩:=xl.1 hx;have:=Bz V E c hc;simp[Yi,this,Fv]
theorem Ek(q:Nat):List.replicate q 0++[(1:Int)]=UA q:=by
 unfold UA;rw[mr,rN];congr 1
 ·refine(nm.2 ⟨by simp,λx hx=>?_⟩).symm;obtain⟨k,G,rfl⟩:=xl.1 hx;have:k<q:=nM.1 G;rw[RK O];rfl
 simp[Fv]
def IS(m N i:Nat)(A:o4):o4:=A.mapIdx λr row=>if r<i then dV m N row else row
theorem Yo(m N i:Nat)(A:o4):Lp (IS m N i A)=Lp A:=by simp[IS]
theorem Eb(m N:Nat)(A:o4):IS m N 0 A=A:=by
 apply Pl (by simp[IS]);intro r h1 h2;simp[IS]
theorem AD{N:Nat}{A:o4}(h:i<Lp A):(IS m N i A)[i]?.getD []=A[i]?.getD []:=by
 simp[IS,h]
theorem Ea{N:Nat}{A:o4}(h:i<Lp A):(IS m N i A).set i (dV m N (A[i]?.getD []))=IS m N (i+1) A:=by
 apply Pl (by simp[IS]);intro r h1 h2;rw[Y3];simp only[IS,ti];split
 ·next e=>subst e;rw[i7 O,In h];rfl
 next e =>
 by_cases hr:r<i
 ·rw[i7 hr,i7 O]
 rw[f8 hr,f8 O]
theorem Yp(m N:Nat)(A:o4):IS m N (Lp A) A=A.map (dV m N):=by
 apply Pl (by simp[IS]);intro r G h2;simp only[IS,L1]at G;simp only[IS,ti,gz];rw[i7 G]
theorem rA(q:Nat)(l:o7):Lp (Gk q l)=q:=by simp[Gk]
theorem nw{q:Nat}{l:o7}(h:k<q):(Gk q l)[k]?.getD []=D8 l k:=by simp[Gk,h]
theorem gR(l:o7)(k:Nat):Lp (D8 l k)=Lp l:=by simp[D8]
theorem XF(b:Bool):0<=Fv b/\Fv b<=1:=by cases b<;>decide
theorem Hp(l:o7)(k j:Nat):0<=(D8 l k)[j]?.getD 0/\(D8 l k)[j]?.getD 0<=1:=by
 by_cases h:j<Lp l
 ·have:(D8 l k)[j]?.getD 0=Fv (Ia l[j] (k:Int)):=by simp[D8,h]
  rw[this];exact XF _
 rw[mq (by rw[gR];omega)];simp
theorem It(V:o7)(G:o7)(E:l9)(q:Nat):
 IS (Lp G) (Lp ((bS V G++aZ V E).map (·.1))) q (Gk q ((bS V G++aZ V E).map (·.1)))=(List.range q).map (JV (bS V G++aZ V E) q):=by
 have:=Yp (Lp G) (Lp ((bS V G++aZ V E).map (·.1))) (Gk q ((bS V G++aZ V E).map (·.1)));rw[rA]at this;rw[this];unfold Gk;rw[PX];apply TL;intro k H;exact Yl V G E q k (nM.1 H)
end
section
variable{W Wc Wd:J}{B z n k f:Nat}{va vc:atY}{us rs:List atY}{A:o4}{C pt:o3}{V:o7}{L:l9}
structure VI(W Wc:J)(B z:Nat)(va:atY)(us rs:List atY)(A:o4)(vc:atY)(C:o3):Prop where
 out:E8 Wc B va us
 rows:bG Wc B rs A
 top:∀i k,i<A.length->(rs[i]?.getD undef).ownBlock=some k->k<z
 c:ZM Wc B vc C
 ext:D4 W Wc
 hz:z<=Wc.heap.size
theorem VI.more(h:VI W Wc B z va us rs A vc C)(hx:D4 Wc Wd):VI W Wd B z va us rs A vc C :=
 ⟨h.out.ext hx,h.rows.ext hx,h.top,h.c.ext hx,h.ext.trans hx,bR h.hz hx.size⟩
theorem VI.push{We:J}{QC:atY}{K:List atY}(h:VI W Wc B z va us rs A vc C)(hx:D4 Wc Wd)(hg:Wd.grownBy We va.ownBlock)(ho:E8 We B QC K)(Z:W.heap.size<=B):VI W We B z QC K rs A vc C:=by
 have G:=h.more hx;refine⟨ho,G.rows.keep λi k hi H=>hg.block k ((G.rows.row i hi).lt k H).2 λe=>(G.rows.row i hi).apart G.out k H e.symm,h.top,?_,G.ext.grown hg λk H=>bR Z (G.out.lt k H).1,bR G.hz hg.size⟩;exact G.c.keep λk H=>hg.block k (G.c.lt k H).2 λe=>aD FS G.c G.out k H e.symm
theorem VI.aeT{We:J}(h:VI W Wc B z va us rs A vc C)(hx:D4 Wc Wd){vT:atY}{l:o7}(K:y9 Wd z vT l)(hg:Wd.grownBy We vT.ownBlock)(YX:W.heap.size<=z):VI W We B z va us rs A vc C:=by
 have H:=h.more hx;refine⟨H.out.keep λk G=>hg.block k (H.out.lt k G).2 λe=>K.apart H.out k e.symm G,H.rows.keep λi k hi G=>hg.block k ((H.rows.row i hi).lt k G).2 λe=>?_,h.top,H.c.keep λk G=>hg.block k (H.c.lt k G).2 λe=>aD FS H.c K k G e.symm,H.ext.grown hg λk G=>bR YX (K.lt k G).1,bR H.hz hg.size⟩;have h2:=h.top i k hi G;have h3:=(K.lt k e.symm).1;omega
theorem VI.start{G KY:J}{a:o6}{N cap:Nat}{H:List atY}{vl:atY}{l:o7}(K:JP G B a N cap H A)(hx:D4 G KY)(Q:y9 KY G vl l)(hb:B<=G.heap.size)(hc:ZM KY B vc C)(h:D4 W KY):
 VI W KY B KY (FB a N cap) H (H++[vl]) (A++[l]) vc C :=
 have hr:=K.rows.snoc hx Q hb
 ⟨K.own.ext hx,hr,λi k hi Z=>((hr.row i hi).lt k Z).2,hc,h,m9 _⟩
theorem d6.afC{w:J}{x:Int}(h:w.cell? (IM n 0)=some (U x)):d6 w (some (IM n 0)) 1 1 [x] :=
 ⟨rfl,m9 _,by omega,λk G=>⟨n,0,rfl,λk G=>by
  obtain rfl:k=0:=O
  exact h⟩⟩
theorem uL{p:Int}(h:GA p V L=true):QG p V L=G4 p.toNat V L/\QF p V L=UA p.toNat/\QE p V L=N8 V L:=by unfold QG QF QE;rw[h];exact⟨rfl,rfl,rfl⟩
theorem yr{α β:Type}(f:α->β)(A B T:List α):(A++B).map f++T.map f=(A++(B++T)).map f:=by simp
theorem Xb{p:Int}(hg:eR p V L=true)(G:Lp V=n)(K:1<=n)(H:∀y∈V,-500<=y/\y<=500):GA p V L=(KK n L).all (Ub V):=by
 unfold GA;rw[hg,CX G K H];rfl
theorem DF{w:J}{p:Int}{a:o6}{cap:Nat}(hV:d6 w a n cap V){fa:o6}{fn Km:Nat}(h:IF w fa fn Km L)(hfn:fn<=1048576):
 Calls Tryz.prog 131 #[Id p a n cap,.slice fa fn Km] w λe w' =>
  rV w' w.heap.size e (QG p V L) (QF p V L) (QE p V L) (GA p V L)/\D4 w w':=by
 obtain⟨W,hW⟩:=j7 ((w.alloc (.cells #[.int .i64 p,.slice a n cap] 31)).alloc (.cells #[.slice none 0 0,.slice none 0 0,.slice none 0 0] 124));have Fp:=I (show W.heap.size=w.heap.size+2 by rw[hW];simp);have B4:=I (show D4 w W by rw[hW];exact(D4.alloc _ _).trans (D4.alloc _ _));have P9:=I (show W.cell? ⟨w.heap.size,1,none⟩=some (.slice a n cap)by rw[hW];simp);have OR:=I (show W.cell? ⟨w.heap.size,0,none⟩=some (.int .i64 p)by rw[hW];simp);have Uj:=I (show W.heap[w.heap.size+1]?=some (.cells #[.slice none 0 0,.slice none 0 0,.slice none 0 0] 124 (0,0))by rw[hW];exact ah _ _ _ j9);have HVL:=I hV.hlen;have PI:=hV.y7;have PH:=hV.y8;have ZD:=h.y7;have ZC:=h.y8;have IP:=I h.hlen;have HF:=I (h.ext B4.o);have Kx:=I (hV.ext B4.o);have HC:=I (bV (p:=p) (hV.ext B4.o));have LS:(w.heap.size+1)<W.heap.size:=by rw[Fp.o];omega
 have E6:=I (λ(w':J) (hx:D4 W w')=>(hx.block _ LS).trans Uj.o);have GK:=I (λ(w':J) (hx:D4 W w') (hno:GA p V L=false) (e:Ending) (he:e=.returned (.tuple #[.agg #[.slice none 0 0,.slice none 0 0,.slice none 0 0],.bool false])) =>
  show rV (((w'.setCell ⟨w.heap.size+1,0,none⟩ (.slice none 0 0)).setCell ⟨w.heap.size+1,1,none⟩ (.slice none 0 0)).setCell ⟨w.heap.size+1,2,none⟩ (.slice none 0 0)) w.heap.size e (QG p V L) (QF p V L) (QE p V L) (GA p V L)/\D4 w (((w'.setCell ⟨w.heap.size+1,0,none⟩ (.slice none 0 0)).setCell ⟨w.heap.size+1,1,none⟩ (.slice none 0 0)).setCell ⟨w.heap.size+1,2,none⟩ (.slice none 0 0))from
   ⟨⟨_,_,_,[],by rw[hno];exact he,E8.nil _ _,by unfold QG;rw[hno,f8 j9];exact bG.nil _ _,by unfold QF;rw[hno,f8 j9];exact y9.nil _ _,by unfold QE;rw[hno,f8 j9];exact ZM.nil _ _,Ju.nil _⟩,
     (((B4.o.trans hx).store 0 O _).store 1 O _).store 2 O _⟩)
 clear h hV LS;cases hg:ak p V
 ·have HG:=I (show GA p V L=false by unfold GA eR;rw[hg];rfl);rw[hg,hW]at HC;clear hg;go_in
  go_wp2_with rfl;refine HC.o.mono ?_;rw[<-hW];rintro e w1 ⟨rfl,B0⟩;have FH:=D5.G9 (E6.o w1 B0);have FL:=D5.G8 (E6.o w1 B0);have Hs:=D5.Hw (E6.o w1 B0);have JR:=D5.Hv (E6.o w1 B0);have A6:=I B0;clear B0;go_wp2_with rfl;refine GE bz rfl (GK.o _ A6.o HG.o _ rfl)
 obtain⟨q,rfl,h1,h5,hlen,_,Ha⟩:=ap hg;have HGO:=I hg;rw[hg,hW]at HC;clear hg;by_cases JJ:q<2
 ·have HG:=I (show GA (q:Int) V L=false by unfold GA eR;rw[HGO.o,RK (by omega:¬(2:Int)<=(q:Int))];rfl);clear hlen Ha;have Zm:(q:Int)<2:=by omega
  go_in
  go_wp2_with rfl;refine HC.o.mono ?_;rw[<-hW];rintro e w1 ⟨rfl,B0⟩;have Fo:=B0.o9 OR.o;have FH:=D5.G9 (E6.o w1 B0);have FL:=D5.G8 (E6.o w1 B0);have Hs:=D5.Hw (E6.o w1 B0);have JR:=D5.Hv (E6.o w1 B0);have A6:=I B0;clear B0;go_wp2_with rfl;refine GE bz rfl (GK.o _ A6.o HG.o _ rfl)
 have Qq:4<=n:=by have:=U0 (n:=q) O h5;rw[<-HVL.o,hlen];exact this
 have IU:n<=32:=by have:=bp q h5;rw[<-HVL.o,hlen];exact this.2
 obtain⟨u,rfl⟩:∃u,n=u+1:=⟨n-1,by omega⟩;have J9:=I Ha;have HOG:=I (show eR (q:Int) V L=(M9 L ((u:Int)-1) fn&&decide (0<(bC L (u+1-2)).length))by
  unfold eR;rw[HGO.o,bl (by omega:(2:Int)<=(q:Int)),HVL.o,IP.o];rw[show(((u+1:Nat):Int))-2=(u:Int)-1 by omega];rfl)
 have Zm:¬(q:Int)<2:=O;have Mj:((u+1:Nat):Int)-1=(u:Int):=O;clear hlen Ha;go_in
 go_wp2_with rfl;refine HC.o.mono ?_;rw[<-hW];clear hW;rintro e w1 ⟨rfl,B0⟩;have Fo:=B0.o9 OR.o;have FQ:=B0.o9 P9.o;have A6:=I B0;clear B0;go_wp2_with rfl;clear Fo FQ
 go_loopg [7,39] fn (λgk ss ii wr=>∃k:Nat,e9 (gk+k=fn)/\ii=.int .i64 (k:Int)/\ss=.int .i64 ((iZ (L.take k):Nat):Int)/\e9 (M9 L ((u:Int)-1) k=true)/\e9 (D4 W wr))
 case atStart=>exact⟨0,I O,rfl,rfl,I rfl,A6⟩
 rename Nat=>g1;rename J=>A1;obtain⟨k,HK,rfl,rfl,HO,HX⟩:=hrel;have Nd:=HX.o.size;rw[Fp.o]at Nd;by_cases hlt:k<fn
 ·obtain⟨b,off,c,x,y,rfl,FI,Re,QP,VB⟩:=(HF.o.ext HX.o).at hlt;have GF:k<L.length:=by rw[IP.o];exact hlt
  have Wf:=E6.o A1 HX.o;have Q':=dc ((u:Int)-1)
  cases hb:A8 c 1 ((u:Int)-1)
  ·have HG:=I (show GA (q:Int) V L=false by
    unfold GA;rw[HOG.o,ky (k:=k) (m:=fn) (by rw[FI];simp only;rw[hb];rfl) hlt];rfl)
   have J3:=E6.o _ (HX.o.trans (D4.alloc A1 (.cells #[.int .i64 c,.int .i64 x,.int .i64 y] 137)));have FH:=D5.G9 J3;have FL:=D5.G8 J3;have Hs:=D5.Hw J3;have JR:=D5.Hv J3;clear J3;clear FI Wf;go_wp2_with (first|(go_at_call 82;refine(av _ _ _ _).mono ?_;rw[hb];rintro e w' ⟨rfl,rfl⟩));refine GE bz rfl (GK.o _ (HX.o.trans (D4.alloc _ _)) HG.o _ rfl)
  have RD:1<=c/\c<=(u:Int)-1:=by unfold A8 at hb;simpa using hb
  obtain⟨t,rfl⟩:∃t:Nat,c=t:=⟨c.toNat,by omega⟩;have hLk:∀f∈L.take k,1<=f.1/\f.1<=(u:Int)-1:=by
   intro f hf;obtain⟨i,hi,rfl⟩:=Xi.1 hf;have:=(fp.1 HO.o) i (nM.2 O);rw[In O]at this;simp only[NE,cM,A8,cq]at this;exact this.1
  have QM:=Xl (L.take k) (λf hf=>by have:=hLk f hf;omega);have Pf:=mR ((iZ (L.take k):Nat):Int) t O O;rw[Qh,EZ t _ (λf hf=>by have:=hLk f hf;omega)]at Pf;have hpw:=XX t O;have Wi:=qj ((2:Int)^t) (2^t)
  cases hh:Iz (L.take k) (t:Int)
  ·rw[hh]at Pf;have HN:=I (show M9 L ((u:Int)-1) (k+1)=true by rw[vH,HO.o,FI];simp only;rw[hb,hh];rfl);have hsn:=CQ GF;rw[FI]at hsn;simp only[eI]at hsn;have TV:=Qi (k:=t) QM O;rw[<-hsn]at TV;clear hsn FI hLk hh;obtain⟨s0,ME⟩:=j7 (iZ (L.take k));obtain⟨s1,J2⟩:=j7 (iZ (L.take (k+1)));rw[<-ME]at Pf TV QM;rw[<-J2]at TV;rw[<-ME];have JE:=I J2;clear ME J2;go_wp2_with (first|(go_at_call 82;refine(av _ _ _ _).mono ?_;rw[hb];rintro e w' ⟨rfl,rfl⟩))
   refine gy ?_;exact⟨k+1,I (l8 HK.o),by go_num,by rw[<-JE.o],HN,I (HX.o.trans (D4.alloc _ _))⟩
  rw[hh]at Pf;have HG:=I (show GA (q:Int) V L=false by
   unfold GA;rw[HOG.o,ky (k:=k) (m:=fn) (by rw[FI];simp only;rw[hh];simp) hlt];rfl)
  have J3:=E6.o _ (HX.o.trans (D4.alloc A1 (.cells #[.int .i64 (t:Int),.int .i64 x,.int .i64 y] 137)));have FH:=D5.G9 J3;have FL:=D5.G8 J3;have Hs:=D5.Hw J3;have JR:=D5.Hv J3;clear J3;clear FI Wf hLk hh;obtain⟨s0,ME⟩:=j7 (iZ (L.take k));rw[<-ME]at Pf QM;rw[<-ME];clear ME;go_wp2_with (first|(go_at_call 82;refine(av _ _ _ _).mono ?_;rw[hb];rintro e w' ⟨rfl,rfl⟩));refine GE bz rfl (GK.o _ (HX.o.trans (D4.alloc _ _)) HG.o _ rfl)
 have hkf:k=fn:=l8 HK.o;subst hkf;have hLb:∀f∈L,1<=f.1/\f.1<=(u:Int)-1:=by
  intro f hf;obtain⟨i,hi,rfl⟩:=QR hf;have:=(fp.1 HO.o) i (nM.2 (by rw[<-IP.o];exact hi));rw[In hi]at this;simp only[NE,cM,A8,cq]at this;exact this.1
 have Hj:=I hLb;have VZ:=I (lg (w:=A1) (q:Int) a (u+1) cap O O (HF.o.ext HX.o));have MQ:=I (λs=>lN (L:=L) (m:=u+1-2) (s:=s));have HML:=I (eJ L (u+1-2));have hcA:=HX.o.o9 OR.o;have hcB:=HX.o.o9 P9.o;clear hLb;go_wp2_with rfl;refine PP VZ λw2 vf hfo C9=>?_;obtain⟨af,m,cf,rfl,hfm⟩:=hfo.var;have C7:=I (HX.o.trans C9);have HFO:=I (hfo.mono (base':=w.heap.size+2) Nd);have Se:=I hfm.out;have hmb:m<=32:=by have:=HML.o;have:=hfm.out;omega
 have J0:=C7.o.size;rw[Fp.o]at J0;clear hfo hfm C9 hcA hcB;by_cases Rw:m=0
 ·subst Rw;have HG:=I (show GA (q:Int) V L=false by
   unfold GA;rw[HOG.o,Se.o];simp)
  have J3:=E6.o _ C7.o;have FH:=D5.G9 J3;have FL:=D5.G8 J3;have Hs:=D5.Hw J3;have JR:=D5.Hv J3;clear J3;go_wp2_with rfl;refine GE bz rfl (GK.o _ C7.o HG.o _ rfl)
 have SY:=I (show eR (q:Int) V L=true by rw[HOG.o,HO.o,Se.o];simp;omega);have hmz:((m:Int) == 0)=false:=by simpa using Rw
 have aeb:=I (kh HFO.o.ints O);have Zs:=HFO.o.ints.y7;have Zr:=HFO.o.ints.y8;go_wp2_with rfl;refine yf aeb λw3 vcl hco C0=>?_;obtain⟨acl,ncl,ccl,rfl,hncl⟩:=hco.var;have C5:=I (C7.o.trans C0);have HFO3:=I (HFO.o.ext C0);have HCO3:=I (hco.mono (base':=w.heap.size+2) J0);have MC:=C5.o.size;rw[Fp.o]at MC;have HR0:=I (ZM.made w3 (w.heap.size+2) MC);clear hco hncl C0;go_wp2_with rfl
 go_loopg [12,76] m (λgk cc ii wr=>∃(k:Nat) (a1:o6) (n1 p1:Nat),e9 (gk+k=m)/\ii=.int .i64 (k:Int)/\cc=.slice a1 n1 p1/\e9 (ZM wr (w.heap.size+2) (.slice a1 n1 p1) ((bS V ((bC L (u+1-2)).take k)).map λc=>c.2.2.2))/\e9 (y9 wr (w.heap.size+2) (.slice af m cf) (bC L (u+1-2)))/\e9 (y9 wr (w.heap.size+2) (.slice acl ncl ccl) (bC L (u+1-2)))/\e9 (D4 W wr))
 case atStart=>exact⟨0,_,_,_,I O,rfl,rfl,HR0,I (HFO3.o.ext (D4.alloc _ _)),I (HCO3.o.ext (D4.alloc _ _)),I (C5.o.trans (D4.alloc _ _))⟩
 rename Nat=>g2;rename J=>wr2;obtain⟨j,a1,n1,p1,HJ,rfl,rfl,U7,Tw,HCK,HXK⟩:=hrel;have hszk:=HXK.o.size;rw[Fp.o]at hszk;have hcB:=HXK.o.o9 P9.o;by_cases Nh:j<m
 ·obtain⟨b,off,he,Tf⟩:=Tw.o.ints.at Nh;subst he;obtain⟨s,hs⟩:=j7 ((bC L (u+1-2))[j]?.getD 0);rw[<-hs]at Tf;have Hn:j<(bC L (u+1-2)).length:=by rw[Se.o];exact Nh
  have hsm:=MQ.o s (by rw[hs,In Hn];exact cP Hn);obtain⟨t,rfl⟩:∃t:Nat,s=t:=⟨s.toNat,by omega⟩;have Y9:t<u+1:=O;obtain⟨vb,voff,Ta,OA⟩:=((Kx.o.ext HXK.o).at Y9);subst Ta;have O9:=du J9.o t;obtain⟨y,hy⟩:=j7 (V[t]?.getD 0);rw[<-hy]at OA O9;have H7:=I (show((bS V ((bC L (u+1-2)).take j)).map λc=>c.2.2.2)++[(-y,1)]=(bS V ((bC L (u+1-2)).take (j+1))).map λc=>c.2.2.2 by
   rw[<-qo V Hn,<-hs,hy];simp)
  have Q':=dc (-y);have Va:=I (show((bS V ((bC L (u+1-2)).take j)).map λc=>c.2.2.2).length<=1000 by rw[b7,ep,jt];have:=HML.o;omega);clear hs hsm hy Hn
  go_wp2_with (first
   | (go_at_call 128;refine i6 (cW _ _) λw4 E4=>?_;have Wb:=E4.size;have Kd:=I (U7.o.ext E4);have V2:=I (Tw.o.ext E4);have V7:=I (HCK.o.ext E4);have Io:=I (HXK.o.trans E4);clear E4)
   | (at_builtin;refine cH rfl _ _ rfl (w.heap.size+2) (.slice a1 n1 p1) _ rfl (Kd.o.ext (D4.alloc _ _)) _ 1 _ [(-y,1)] rfl (i8.one' _ _ _ _ _ j9) (l8 Va.o) t8 ?_;intro v5 w5 ho hg r';have HF5:=I (V2.o.Sm (D4.alloc _ _) Kd.o hg);have HC5:=I (V7.o.Sm (D4.alloc _ _) Kd.o hg);have X5:=I ((Io.o.trans (D4.alloc _ _)).grown hg (λj hj=>by rw[Fp.o];exact(Kd.o.lt j hj).1));obtain⟨a5,n5,p5,rfl,JU⟩:=ho.var;have Fj:=I ho;clear ho hg r'))
  refine YX ?_;exact⟨j+1,a5,n5,p5,I (l8 HJ.o),by go_num,rfl,I U5,HF5,HC5,X5⟩
 have PJ:m=j:=l8 HJ.o;subst PJ;have HFT:=I (show(bC L (u+1-2)).take m=bC L (u+1-2)from aP (by rw[Se.o];exact m9 _));rw[HFT.o]at U7;have V6:=I (Bm (HF.o.ext HXK.o) O);clear Tw hcB;go_wp2_with rfl;refine yf V6 λw4 vE hE E4=>?_;obtain⟨aE0,nE0,cE0,rfl,hnE⟩:=hE.var;have Io:=I (HXK.o.trans E4);have Kd:=I (U7.o.ext E4);have V7:=I (HCK.o.ext E4);have HE4:=I (hE.mono (base':=w.heap.size+2) hszk);have Vq:=Io.o.size;rw[Fp.o]at Vq;clear hE hnE E4
 go_wp2_with (first
  | (go_at_call 128;refine i6 (cW _ _) λw5 F'=>?_;have MD:=F'.size;have HE5:=I (HE4.o.ext F');have Lv:=I (Kd.o.ext F');have HC5:=I (V7.o.ext F');have Hh:=I (Io.o.trans F');clear F')
  | (at_builtin;refine dt I8 Tryz.O8 rfl Vz FS rfl _ _ rfl (w.heap.size+2) (.slice aE0 nE0 cE0) L rfl (HE5.o.ext (D4.alloc _ _)) _ 1 1 [((u:Int),0,1)] rfl (ID.lit I8 _ _ _ 1 l7 _ l7 _ l7 O) (by rw[IP.o];omega) t8 ?_;intro v6 w6 ho hg r';have Ri:=I (show ZM w6 _ _ _ from cz (Lv.o.ext (D4.alloc _ _)) (HE5.o.ext (D4.alloc _ _)) FS hg);have WC:=I (show y9 w6 _ _ _ from cz (HC5.o.ext (D4.alloc _ _)) (HE5.o.ext (D4.alloc _ _)) FS hg);have X6:=I ((Hh.o.trans (D4.alloc _ _)).grown hg (λj hj=>by rw[Fp.o];exact(HE5.o.lt j hj).1));obtain⟨aE,nE,cE,rfl,NZ⟩:=ho.var;have HE6:=I ho;clear ho hg r'))
 obtain⟨EE,hEE⟩:=j7 (KK (u+1) L);have HEL:=I (show L++[((u:Int),0,1)]=EE by rw[hEE];unfold KK;rw[Mj]);have HEM:=I (show∀f∈EE,1<=f.1/\f.1<=(u:Int)by
  intro f hf;rw[<-HEL.o]at hf;rcases Pm.1 hf with h|h
  ·have:=Hj.o f h;omega
  rw[Nu]at h;subst h;simp only;omega)
 have HEN:=I (show EE.length=k+1 by rw[<-HEL.o,ar,IP.o];rfl);have HNEE:=I (show nE=k+1 by rw[<-NZ.o,HEL.o,HEN.o]);rw[HEL.o]at HE6;have Hx:=I (Xb SY.o HVL.o O J9.o);rw[<-hEE]at Hx;have Rl:=I (mT HVL.o O J9.o L);rw[<-hEE]at Rl;have hecap:=HE6.o.JG.y7;have hemax:=HE6.o.JG.y8;have HFV:=I (show(bS V (bC L (u+1-2))).length<=1000 by rw[ep];have:=HML.o;omega);obtain⟨FC,hFC⟩:=j7 (bS V (bC L (u+1-2)));have HFC1:=I (show bC L (u+1-2)=FC.map (·.1)by rw[hFC];simp[bS,Function.comp_def]);rw[HFC1.o]at WC;rw[<-hFC]at Ri Rl HFV;have RS:=I hFC;clear hEE hFC Mj;go_wp2_with rfl
 go_loopg [11,12,99] (k+1) (λgk cc rr ii wr=>∃(i:Nat) (aC:o6) (nC cC:Nat) (aR:o6) (nR cR:Nat),e9 (gk+i=k+1)/\ii=.int .i64 (i:Int)/\cc=.slice aC nC cC/\rr=.slice aR nR cR/\e9 (y9 wr (w.heap.size+2) (.slice aC nC cC) ((FC++aZ V (EE.take i)).map (·.1)))/\e9 (ZM wr (w.heap.size+2) (.slice aR nR cR) ((FC++aZ V (EE.take i)).map λc=>c.2.2.2))/\e9 (A9 I8 137 wr (w.heap.size+2) (.slice aE nE cE) EE)/\e9 ((EE.take i).all (Ub V)=true)/\e9 (D4 W wr))
 case atStart=>exact⟨0,_,_,_,_,_,_,I O,rfl,rfl,rfl,I (by simpa[aZ]using WC.o),I (by simpa[aZ]using Ri.o),HE6,I rfl,X6⟩
 rename Nat=>g3;rename J=>wr3;obtain⟨i,aC,nC,cC,aR,nR,cR,HI,rfl,rfl,rfl,Ns,HOR,Tt,VQ,C5⟩:=hrel;have Zd:=C5.o.size;rw[Fp.o]at Zd;by_cases Pd:i<k+1
 ·have hine:i<nE:=by rw[HNEE.o];exact Pd
  obtain⟨eb,D6,⟨c,x,y⟩,Kl,hex,hec⟩:=Tt.o.JG.at hine;subst Kl;have e0:wr3.cell? ⟨eb,D6+i*3,none⟩=some (.int .i64 c):=hec 0 _ rfl;have e1:wr3.cell? ⟨eb,D6+i*3+1,none⟩=some (.int .i64 x):=hec 1 _ rfl;have e2:wr3.cell? ⟨eb,D6+i*3+2,none⟩=some (.int .i64 y):=hec 2 _ rfl;have Nx:=HEM.o (c,x,y) (MV hex);simp only at Nx;obtain⟨t,rfl⟩:∃t:Nat,c=t:=⟨c.toNat,by omega⟩;have Y9:t<u+1:=O;obtain⟨vb,voff,Ta,OA⟩:=Kx.o.at Y9;subst Ta;obtain⟨z,hz⟩:=j7 (V[t]?.getD 0);rw[<-hz]at OA;obtain⟨p,q',ok,Fw⟩:∃p q ok,FD (x,y) (z,1)=((p,q),ok):=⟨_,_,_,rfl⟩;have Gi:=I Fw;have HPB:=I (show -1000000000<=p/\p<=1000000000 by have:=zq (x,y) (z,1);rw[Fw]at this;exact this);have HFIT:=I (show Ub V ((t:Int),x,y)=ok by unfold Ub;simp only;rw[eI,<-hz,Fw]);have HTW:=I (show aZ V (EE.take i)++I2 (t:Int) (p,q')=aZ V (EE.take (i+1))by
   rw[fX hex];unfold aZ;rw[Vs];simp only[Rv,List.flatMap_nil,D0];unfold iw;simp only;rw[eI,<-hz,Fw])
  have HXI:=I hex;clear hec hex hz Fw;go_upto_region 25 with rfl;obtain⟨wb,S9⟩:=j7 (wr3.alloc (.cells #[.int .i64 (t:Int),.int .i64 x,.int .i64 y] 137));have Qv:=I (show D4 wr3 wb by rw[S9];exact D4.alloc _ _);have f0:wb.cell? ⟨wr3.heap.size,0,none⟩=some (.int .i64 (t:Int)):=by rw[S9];simp
  have f1:wb.cell? ⟨wr3.heap.size,1,none⟩=some (.int .i64 x):=by rw[S9];simp
  have f2:wb.cell? ⟨wr3.heap.size,2,none⟩=some (.int .i64 y):=by rw[S9];simp
  have KF:wb.cell? ⟨w.heap.size,1,none⟩=some (.slice (some ⟨vb,voff,none⟩) (u+1) cap):=(C5.o.trans Qv.o).o9 P9.o;have TQ:wb.cell? ⟨vb,voff+t,none⟩=some (.int .i64 z):=(C5.o.trans Qv.o).o9 OA;rw[<-S9];have Zb:(t:Int)<(u:Int)+1:=O;clear S9 e0 e1 e2 OA;go_upto_region 25 with rfl
  go_cut [17,18] (λsx so wx=>∃g:Nat,sx=.pointer (some ⟨g,0,none⟩)/\so=.bool ok/\e9 (ai wb wx g p q'))
  case first =>
   have r7:=D4.drew wb;have Fu:D4 wb (wb.alloc (.cells #[.int .i64 0,.int .i64 0] 80)).drew:=(D4.alloc _ _).trans (D4.drew _);have r8:=I (λ(w':J) (h:D4 wb w')=>(an (h.o9 f0) (an (h.o9 f1) (an (h.o9 f2) (an (h.o9 KF) (an (h.o9 TQ) h))))))
   go_region_held3 (λw'=>w'.cell? ⟨wr3.heap.size,0,none⟩=some (.int .i64 (t:Int))/\w'.cell? ⟨wr3.heap.size,1,none⟩=some (.int .i64 x)/\w'.cell? ⟨wr3.heap.size,2,none⟩=some (.int .i64 y)/\w'.cell? ⟨w.heap.size,1,none⟩=some (.slice (some ⟨vb,voff,none⟩) (u+1) cap)/\w'.cell? ⟨vb,voff+t,none⟩=some (.int .i64 z)/\D4 wb w')
    (exact yg)
    (first
      | ((with_reducible refine(cW _ _).mono ?_)
         rintro e w7 ⟨rfl,Gr⟩
         try with_reducible first|have A7:=ai.grow A7 Gr|have A7:=ai.Fk Gr|have A7:=ai.Fq r7 Gr
         try(have Ko:=A7.c0;have Kn:=A7.c1;have L4:=A7.free)
         have r7:D4 wb w7:=Zg;have G7:=r7.size)
      | ((with_reducible refine(ng _ _ _ _ _).mono ?_)
         rw[Gi.o];rintro e w8 ⟨rfl,Hm⟩
         try with_reducible first|have A7:=ai.grow A7 Hm|have A7:=ai.Fk Hm|have A7:=ai.Fq r7 Hm
         try(have Ko:=A7.c0;have Kn:=A7.c1;have L4:=A7.free)
         have r7:D4 wb w8:=Qz;have G7:=r7.size)
      | fail)
   all_goals(exact yx)
  obtain⟨g,rfl,rfl,HB⟩:=hcut;have XC:=I ((C5.o.trans Qv.o).trans HB.o.ext);have aaJ:=I ((Ns.o.ext Qv.o).ext HB.o.ext);have HORc:=I ((HOR.o.ext Qv.o).ext HB.o.ext);have HOEc:=I ((Tt.o.ext Qv.o).ext HB.o.ext);have Oh:=HB.o.ext.o9 f0;have QK:=XC.o.size;rw[Fp.o]at QK;have HGE:=I (show wr3.heap.size<g by have:=HB.o.ge;have:=vM _ _ f0;simp only at this;omega);clear f0 f1 f2 KF TQ Zb;cases ok
  ·have HG:=I (show GA (q:Int) V L=false from by
    rw[Hx.o,Uf];exact⟨_,MV HXI.o,by rw[HFIT.o];simp⟩)
   have J3:=E6.o _ XC.o;have FH:=D5.G9 J3;have FL:=D5.G8 J3;have Hs:=D5.Hw J3;have JR:=D5.Hv J3;clear J3;go_wp2_with rfl;refine GE bz rfl (GK.o _ XC.o HG.o _ rfl)
  have Wx:=I (show(EE.take (i+1)).all (Ub V)=true by rw[fX HXI.o,p7,VQ.o];simp[HFIT.o]);have Ji:=I (show((FC++aZ V (EE.take i)).map (·.1)).length<=3000000 by rw[b7,ar,fT,jt];have:=HFV.o;have:=HEN.o;omega);have GS:=I (show((FC++aZ V (EE.take i)).map λc=>c.2.2.2).length<=3000000 by rw[b7,ar,fT,jt];have:=HFV.o;have:=HEN.o;omega);have HSC:=I (show(FC++aZ V (EE.take i)).map (·.1)++[(t:Int),(t:Int)]=(FC++aZ V (EE.take (i+1))).map (·.1)by rw[<-HTW.o];exact yr _ FC _ (I2 (t:Int) (p,q')));have HSR:=I (show((FC++aZ V (EE.take i)).map λc=>c.2.2.2)++[(p,q'),(-p,q')]=(FC++aZ V (EE.take (i+1))).map λc=>c.2.2.2 by rw[<-HTW.o];exact yr _ FC _ (I2 (t:Int) (p,q')));have Pv:=I (HB.o.cell)
  go_wp2_with (first
   | (at_builtin;go_loud (refine bK rfl _ _ rfl (w.heap.size+2) (.slice aC nC cC) _ rfl (aaJ.o.ext (D4.alloc _ _)) _ 2 _ [(t:Int),(t:Int)] rfl (d6.afF [(t:Int),(t:Int)] _ l7 l7 l7 j9) (bR (Nat.add_le_add_right Ji.o 2) FS) t8 ?_;intro v9 w9 ho hg r';have HR9:=I (HORc.o.YK (D4.alloc _ _) aaJ.o hg);have HE9:=I (show A9 I8 137 w9 _ _ _ from HOEc.o.ZV (D4.alloc _ _) aaJ.o FS hg);have X9:=I ((XC.o.trans (D4.alloc _ _)).grown hg (λj hj=>by rw[Fp.o];exact(aaJ.o.lt j hj).1));have N6:=I (show w9.heap[g]?=_ from(hg.block g (by have:=HB.o.lt;simp;omega) (aq aaJ.o Pv.o FS)).trans ((aU _ _ _ HB.o.lt).trans Pv.o));obtain⟨a9,n9,p9,rfl,Qe⟩:=ho.var;have HC9:=I ho;clear ho hg r')))
  have I7:w9.cell? ⟨g,0,none⟩=some (.int .i64 p):=(bO N6.o).1;have Gm:w9.cell? ⟨g,1,none⟩=some (.int .i64 q'):=(bO N6.o).2.1;have hpb:=HPB.o;have HNE9:=I (show some g≠(Value.slice aR nR cR).ownBlock from λe=>by have:=(HOR.o.lt g e.symm).2;have:=HGE.o;omega);have Ij:D4 W w9:=X9.o;have r7:=D4.drew w9;have hsz9:=X9.o.size;rw[Fp.o]at hsz9;have r8:=I (λ(w':J) (h:D4 W w') (h0:w'.cell? ⟨g,0,none⟩=some (.int .i64 p)) (h1:w'.cell? ⟨g,1,none⟩=some (.int .i64 q'))=>(⟨h0,h1,h⟩:w'.cell? ⟨g,0,none⟩=some (.int .i64 p)/\w'.cell? ⟨g,1,none⟩=some (.int .i64 q')/\D4 W w'));clear Oh
  go_region_held3 (λw'=>w'.cell? ⟨g,0,none⟩=some (.int .i64 p)/\w'.cell? ⟨g,1,none⟩=some (.int .i64 q')/\D4 W w')
   (first
     | with_reducible exact r8.o _ (Ij.trans r7) (r7.o9 I7) (r7.o9 Gm)
     | with_reducible exact r8.o _ (Ij.trans (r7.trans (D4.alloc _ _))) ((r7.trans (D4.alloc _ _)).o9 I7) ((r7.trans (D4.alloc _ _)).o9 Gm)
     | with_reducible exact r8.o _ OE hc5 hc6)
   (first
     | ((with_reducible refine(fc _ _ _ O O).mono ?_)
        rintro e O6 ⟨rfl,MA⟩;have r7:D4 w9 O6:=r7.trans MA;have afW:=r7.size)
     | (refine bU _ l7 ?_
        refine dw _ _ l7 (w.heap.size+2) (.slice aR nR cR) _ l7 (HR9.o.ext (r7.trans (D4.alloc _ _))) _ 2 2 [(p,q'),(-p,q')] l7 (i8.two _ _ _ _ _ _ l7) (bR (Nat.add_le_add_right GS.o 2) FS) t8 ?_;intro v11 Q9 ho hg r';have hc5:=hg.cell ((r7.trans (D4.alloc _ _)).o9 I7) HNE9.o;have hc6:=hg.cell ((r7.trans (D4.alloc _ _)).o9 Gm) HNE9.o;have HC11:=I (HC9.o.Sm (r7.trans (D4.alloc _ _)) HR9.o hg);have HE11:=I (HE9.o.ZU (r7.trans (D4.alloc _ _)) HR9.o FS hg);have OE:D4 W Q9:=(Ij.trans (r7.trans (D4.alloc _ _))).grown hg (λj hj=>by rw[Fp.o];exact(HR9.o.lt j hj).1);obtain⟨a11,n11,p11,rfl,HN11⟩:=ho.var;have HR11:=I ho;clear ho hg r')
     | fail)
  have X11:=I OE;clear Ij OE hc5 hc6;go_wp2_with rfl
  go_roundg (g3-1)
  case measure=>have:=HI.o;omega
  exact⟨i+1,a9,n9,p9,a11,n11,p11,I (l8 HI.o),by go_num,rfl,rfl,I (by rw[<-HSC.o];exact HC11.o),I (by rw[<-HSR.o];exact HR11.o),HE11,Wx,X11⟩
 have hik':i=k+1:=l8 HI.o;subst hik';have Nz:=I (show EE.take (k+1)=EE from aP (by rw[HEN.o];exact m9 _));rw[Nz.o]at Ns HOR VQ;have Ui:=I (show GA (q:Int) V L=true by rw[Hx.o,VQ.o]);obtain⟨CI,hCI⟩:=j7 ((FC++aZ V EE).map (·.1));have SQ:=I (show((FC++aZ V EE).map λc=>c.2.2.2)=N8 V L by rw[Rl.o];rfl);have V4:=I (show CI.length=m+2*(k+1)by rw[hCI,b7,ar,fT,HEN.o,RS.o,ep,Se.o]);have aaH:=I (show IS m CI.length q (Gk q CI)=(List.range q).map (JV (ec V L) q)by
  have:=It V (bC L (u+1-2)) EE q;rw[Se.o,<-RS.o,<-hCI,Rl.o]at this;exact this)
 have al9:=I (show List.replicate m 1++List.replicate (2*(k+1)) 0=JV (ec V L) q q by
  have:=xW V (bC L (u+1-2)) EE q;rw[Se.o,<-RS.o,Rl.o,HEN.o]at this;exact this)
 have WB:=I (show∀r:Nat,CI[r]?.getD 0<=9223372036854775807 by
  intro r;by_cases hr:r<CI.length
  ·rw[In hr];have hm:=cP hr;simp only[hCI]at hm;obtain⟨c,hc,hce⟩:=xl.1 hm;have IH:=wY HVL.o O (λf hf=>by have:=Hj.o f hf;omega) c (by rw[<-Rl.o];exact hc);simp only[NE];have e:CI[r]=c.1:=by simp only[hCI];exact hce.symm
   rw[e];omega
  rw[mq O];simp)
 rw[<-hCI]at Ns;rw[SQ.o]at HOR;have HNC:=I (show nC=m+2*(k+1)by obtain⟨_,_,he,_⟩:=Ns.o.form;simp only[mn]at he;rw[he.2.1,V4.o]);have Q2:=I (lR (w:=wr3) q h5 Ns.o.ints WB.o (by rw[HNC.o];omega));have hcA:=C5.o.o9 OR.o;have hnlt:¬((k:Int)+1<(nE:Int)):=l8 HNEE.o;clear hCI;go_wp2_with rfl;refine Q2.o.mono ?_;rintro e N7 ⟨⟨vA,rfl,vs,TU,Oe⟩,Jq⟩;obtain⟨aA,nA,cA,rfl,hna⟩:=TU.var;have hnq:nA=q:=by rw[<-hna.out,Oe.len,rA]
 subst hnq;have VW:=I (show JP N7 (w.heap.size+2) aA nA cA vs (Gk nA CI)from⟨TU.mono' Zd,⟨Oe.len,λi hi=>(Oe.row i hi).mono Zd,Oe.apart⟩⟩);have RP:=I (HOR.o.ext Jq);have Wr:=I (C5.o.trans Jq);have hacap:=VW.o.cap.1;have hamax:=VW.o.cap.2;clear TU Oe hna Jq hcA;go_wp2_with rfl
 go_loopg [139] nA (λgk ii wr=>∃i:Nat,e9 (gk+i=nA)/\ii=.int .i64 (i:Int)/\e9 (JP wr (w.heap.size+2) aA nA cA vs (IS m CI.length i (Gk nA CI)))/\e9 (ZM wr (w.heap.size+2) (.slice aR nR cR) (N8 V L))/\e9 (D4 W wr))
 case atStart=>exact⟨0,I O,rfl,I (by rw[Eb];exact VW.o),RP,Wr⟩
 rename Nat=>g4;rename J=>wr4;obtain⟨i,HI4,rfl,M3,HR4',ag1⟩:=hrel;have aex:=ag1.o.size;rw[Fp.o]at aex;by_cases FA:i<nA
 ·obtain⟨G,rfl,_,VH,_⟩:=M3.o.outer O;have K2:i<(Gk nA CI).length:=by rw[rA];exact FA
  have Nf:((IS m CI.length i (Gk nA CI))[i]?.getD []).length=m+2*(k+1):=by rw[AD K2,nw FA,gR,V4.o]
  obtain⟨gr,cr,S',hcr,TV,hne,Pg,hgrl,hncr,hcrm⟩:=M3.o.row FA Nf O;have HVR:=I S';clear S' TV Nf;go_wp2_with rfl
  go_loopg [22] (m+2*(k+1)) (λgk jj wr=>∃t:Nat,e9 (gk+t=m+2*(k+1))/\jj=.int .i64 ((m+1+2*t:Nat):Int)/\e9 (JP wr (w.heap.size+2) (some ⟨G,0,none⟩) nA cA vs ((IS m CI.length i (Gk nA CI)).set i (dV m (m+1+2*t) (D8 CI i))))/\e9 (ZM wr (w.heap.size+2) (.slice aR nR cR) (N8 V L))/\e9 (D4 W wr))
  case atStart=>exact⟨0,I O,by simp,I (by
   rw[zZ];have e:(IS m CI.length i (Gk nA CI)).set i (D8 CI i)=IS m CI.length i (Gk nA CI):=by
    have h0:=AD (m:=m) (N:=CI.length) K2;rw[nw FA]at h0;apply Pl j9;intro r h1 h2;rw[Y3];split
    ·next er=>subst er;rw[In h2]at h0;simpa using h0.symm
    rfl
   rw[e];exact M3.o),HR4',ag1⟩
  obtain⟨t,L7,rfl,KU,ahf,VL⟩:=hrel;have ajB:=VL.o.size;rw[Fp.o]at ajB;by_cases Hn:m+1+2*t<m+2*(k+1)
  ·obtain⟨j,hj⟩:=j7 (m+1+2*t);have UN:((IS m CI.length i (Gk nA CI)).set i (dV m (m+1+2*t) (D8 CI i)))[i]?.getD []=dV m (m+1+2*t) (D8 CI i):=by
    rw[tu (by rw[Yo];exact K2)];rfl
   obtain⟨gr',cr',hvr',hcr',hor',Ru,hbr',akn,ajY,akB⟩:=KU.o.row (n:=m+2*(k+1)) FA (by rw[UN,Ed,gR,V4.o]) O;have Ii:=HVR.o.symm.trans hvr';simp only[mn,Pi,gl,gi,W2]at Ii;have Zp:=hor';rw[<-Ii.1,<-Ii.2,UN]at Zp;have hcell:=Zp.IJ.2.2.2 (m+1+2*t) Hn;have KG:=Zp.IJ.2.2.1 (m+1+2*t);rw[Ym (by rw[gR,V4.o];exact Hn),f8 O]at hcell;obtain⟨x,hx⟩:=j7 ((D8 CI i)[m+1+2*t]?.getD 0);have S8:=Hp CI i (m+1+2*t);rw[<-hx]at hcell S8;have hwx:=dc (-x);have Uq:=I (show JP (wr.setCell ⟨gr,m+1+2*t,none⟩ (.int .i64 (-x))) (w.heap.size+2) (some ⟨G,0,none⟩) nA cA vs ((IS m CI.length i (Gk nA CI)).set i (dV m (m+1+2*(t+1)) (D8 CI i)))by
    have:=KU.o.N9 FA HVR.o (m+1+2*t) (-x);rw[UN,hx,Co (by rw[gR,V4.o];exact Hn),List.set_set]at this
    rw[hx];exact this)
   have HR6':=I (show ZM (wr.setCell ⟨gr,m+1+2*t,none⟩ (.int .i64 (-x))) (w.heap.size+2) (.slice aR nR cR) (N8 V L)from
    ahf.o.keep λb hb=>If _ _ _ _ λe=>aD FS ahf.o Zp b hb (by rw[e];rfl))
   have HX6':=I (VL.o.store (b:=gr) (m+1+2*t) (by rw[Fp.o];exact Pg) (.int .i64 (-x)));clear hor' Zp UN hvr' hcr' Ru hbr' akn ajY akB Ii hx;rw[<-hj]at hcell KG Uq HR6' HX6' Hn;have HJ6:=I hj;rw[<-hj];clear hj;go_wp2_with rfl
   go_roundg (gk-1)
   case measure=>have:=L7.o;have:=HJ6.o;omega
   exact⟨t+1,I (by have:=L7.o;have:=HJ6.o;omega),by have:=HJ6.o;go_num,Uq,HR6',HX6'⟩
  have hnlt2:¬(((m+1+2*t:Nat):Int)<((m+2*(k+1):Nat):Int)):=O;have HM7:=I (show JP wr (w.heap.size+2) (some ⟨G,0,none⟩) nA cA vs (IS m CI.length (i+1) (Gk nA CI))by
   have h1:=Ea (m:=m) (N:=CI.length) K2;rw[nw FA]at h1;rw[<-h1];have h2:=Ec (m:=m) (j:=m+1+2*t) (r:=D8 CI i) (by rw[gR,V4.o];omega);rw[gR]at h2;rw[<-h2];exact KU.o)
  obtain⟨j,hj⟩:=j7 (m+1+2*t);obtain⟨N,hN⟩:=j7 (m+2*(k+1));go_wp2_with rfl
  go_roundg (g4-1)
  case measure=>have:=HI4.o;omega
  exact⟨i+1,I (l8 HI4.o),by go_num,HM7,ahf,VL⟩
 have hin':nA=i:=l8 HI4.o;subst hin';rw[aaH.o]at M3;have ahv:=I (uL Ui.o);obtain⟨d,hd⟩:=j7 (2*(k+1));have hncd:(nC:Int)-(m:Int)=(d:Int):=l8 HNC.o;have HD:=I hd;have HT1:=I (gD (w:=wr4) m 1 O);have GJ:=I (λ(S5:J)=>gD (w:=S5) d 0 O);have hnc0:(0:Int)<=(nC:Int)-(m:Int):=O;clear hd;go_wp2_with rfl;refine PP HT1 λS5 v13 af0 Y2=>?_;obtain⟨a13,n13,c13,rfl,hn13⟩:=af0.var;have Ks:=I af0;have HX13:=I Y2;clear af0 Y2 hn13;go_wp2_with rfl;rw[show wrap64 (d:Int)=(d:Int)by unfold wrap64;have:=HD.o;omega];refine PP (GJ.o S5) λw14 v14 afZ hx14=>?_;obtain⟨a14,n14,c14,rfl,hn14⟩:=afZ.var;have HO14:=I afZ;have ag3:=I hx14;have HN14:=I hn14.out;have ad3:=I (show(List.replicate m (1:Int)).length+n14<=1099511627776 by rw[<-HN14.o,yl,yl];have:=HD.o;omega);have hs13:=HX13.o.size;have hs14:=ag3.o.size;clear afZ hx14 hn14
 go_wp2_with (first
  | (at_builtin;go_loud (refine bK rfl _ _ rfl wr4.heap.size (.slice a13 n13 c13) _ rfl (Ks.o.ext ag3.o) _ n14 _ _ rfl HO14.o.ints ad3.o O ?_;intro v15 KY ho hg r';have Y1:=((HX13.o.trans ag3.o).grown hg (λj hj=>(Ks.o.lt j hj).1));obtain⟨a15,n15,c15,rfl,HN15⟩:=ho.var;have NY:=I ho;have ag2:=I Y1;clear ho hg r' Y1)))
 obtain⟨lr,LV⟩:=j7 (List.replicate m (1:Int)++List.replicate d 0);have HLR0:=I (show lr=JV (ec V L) nA nA by rw[LV,HD.o];exact al9.o);rw[<-LV]at NY;have adj:D4 W KY:=ag1.o.trans ag2.o;have Z:VI W KY (w.heap.size+2) KY.heap.size (.slice aA nA cA) vs (vs++[.slice a15 n15 c15]) ((List.range nA).map (JV (ec V L) nA)++[lr]) (.slice aR nR cR) (N8 V L) :=
  VI.start M3.o ag2.o NY.o aex (HR4'.o.ext ag2.o) adj
 have ajC:=adj.size;rw[Fp.o]at ajC;have P':=I (show vs.length<=1099511627775 by rw[M3.o.IZ];omega);have GU:=I (λ(w16:J)=>gD (w:=w16) nA 0 O);have r8:=I (λ(w':J) (h:D4 W w')=>(h.o9 OR.o:w'.cell? ⟨w.heap.size,0,none⟩=some (.int .i64 (nA:Int))));have HKST:=I (λ(w':J) (h:D4 W w') (a b c:atY)=>(show(((w'.setCell ⟨w.heap.size+1,0,none⟩ a).setCell ⟨w.heap.size+1,1,none⟩ b).setCell ⟨w.heap.size+1,2,none⟩ c).cell? ⟨w.heap.size,0,none⟩=some (.int .i64 (nA:Int))from
  (World.cell?_of_block (a:=⟨w.heap.size,0,none⟩) (by
    show(((w'.setCell ⟨w.heap.size+1,0,none⟩ a).setCell ⟨w.heap.size+1,1,none⟩ b).setCell ⟨w.heap.size+1,2,none⟩ c).heap[w.heap.size]?=w'.heap[w.heap.size]?;rw[If _ _ _ _ j9,If _ _ _ _ j9,If _ _ _ _ j9])).trans (r8.o w' h)))
 have U8:=I (λ(n:Nat) (hn:KY.heap.size<=n)=>(show some n≠(Value.slice aA nA cA).ownBlock from λe=>by have:=(Z.out.lt n e.symm).2;omega));have GL:=I (show W.heap.size<=w.heap.size+2 by rw[Fp.o];exact m9 _);have HZW:=I (show W.heap.size<=KY.heap.size from adj.size);have e0:D4 KY KY.drew:=D4.drew _;have e1:D4 KY (KY.alloc (.cells #[.slice a15 n15 c15] 29)).drew:=(D4.alloc _ _).trans (D4.drew _);have e2:D4 KY (KY.alloc (.cells #[.int .i64 1] 3)).drew:=(D4.alloc _ _).trans (D4.drew _);have e12:D4 KY ((KY.alloc (.cells #[.slice a15 n15 c15] 29)).alloc (.cells #[.int .i64 1] 3)).drew:=((D4.alloc _ _).trans (D4.alloc _ _)).trans (D4.drew _);have e21:D4 KY ((KY.alloc (.cells #[.int .i64 1] 3)).alloc (.cells #[.slice a15 n15 c15] 29)).drew:=((D4.alloc _ _).trans (D4.alloc _ _)).trans (D4.drew _);have b12:((KY.alloc (.cells #[.slice a15 n15 c15] 29)).alloc (.cells #[.int .i64 1] 3)).drew.cell? ⟨KY.heap.size+1,0,none⟩=some (.int .i64 1):=j9;have b21:((KY.alloc (.cells #[.int .i64 1] 3)).alloc (.cells #[.slice a15 n15 c15] 29)).drew.cell? ⟨KY.heap.size,0,none⟩=some (.int .i64 1):=j9;clear LV
 go_region_held3 (λw'=>w'.cell? ⟨w.heap.size,0,none⟩=some (.int .i64 (nA:Int)))
  (first
    | with_reducible exact r8.o _ (Z.ext.trans e0)
    | with_reducible exact r8.o _ (Z.ext.trans e1)
    | with_reducible exact r8.o _ (Z.ext.trans e2)
    | with_reducible exact r8.o _ (Z.ext.trans e12)
    | with_reducible exact r8.o _ (Z.ext.trans e21)
    | with_reducible exact r8.o _ Z.ext
    | with_reducible exact r8.o _ (Z.ext.trans (D4.alloc _ _))
    | with_reducible exact HKST.o _ Z.ext _ _ _)
  (first
    | ((with_reducible refine(GU.o _).mono ?_)
       rintro e w17 ⟨⟨vT,rfl,hoT⟩,hxT⟩;obtain⟨aT,nT,cT,rfl,hnT⟩:=hoT.var;have hzz:=Z.hz;have HT:=I (hoT.mono (base':=KY.heap.size) (by first|exact hzz|(simp;omega)))
       first
        | (with_reducible have Z:=Z.more hxT)
        | (with_reducible have Z:=Z.more ((D4.alloc _ _).trans hxT))
       first
        | (with_reducible have F0:=hxT.o9 F0)
        | (have F0:w17.cell? ⟨wA.heap.size,0,none⟩=some (.int .i64 1):=hxT.o9 (by simp;done))
        | skip
       have hs17:=Z.ext.size;clear hoT hnT hxT)
    | (refine bU _ l7 ?_
       refine dz _ _ l7 (w.heap.size+2) (.slice aA nA cA) vs l7 (by with_reducible exact Z.out.ext e1) _ _ 1 l7 E5 l7 P'.o t8 ?_;intro v16 wA ho hg r';have Z:=Z.push e1 hg ho GL.o;obtain⟨a16,n16,c16,rfl,HN16⟩:=ho.var;have hs16:=Z.ext.size;clear ho hg r')
    | (refine bU _ l7 ?_
       refine dz _ _ l7 (w.heap.size+2) (.slice aA nA cA) vs l7 (by with_reducible exact Z.out.ext e12) _ _ 1 l7 E5 l7 P'.o t8 ?_;intro v16 wA ho hg r';have F0:=hg.cell b12 (U8.o _ (bq _));have Z:=Z.push e12 hg ho GL.o;obtain⟨a16,n16,c16,rfl,HN16⟩:=ho.var;have hs16:=Z.ext.size;clear ho hg r')
    | (refine bU _ l7 ?_
       refine dz _ _ l7 (w.heap.size+2) (.slice aA nA cA) vs l7 (by with_reducible exact Z.out.ext e21) _ _ 1 l7 E5 l7 P'.o t8 ?_;intro v16 wA ho hg r';have F0:=hg.cell b21 (U8.o _ (m9 _));have Z:=Z.push e21 hg ho GL.o;obtain⟨a16,n16,c16,rfl,HN16⟩:=ho.var;have hs16:=Z.ext.size;clear ho hg r')
    | (refine bU _ l7 ?_
       refine aO _ _ l7 KY.heap.size (.slice aT nT cT) (List.replicate nA 0) l7 (by with_reducible exact HT.o) _ 1 _ [(1:Int)] l7 (d6.afC F0) t8 Z.hz ?_;intro v18 wZ ho hg r';have Z:=Z.aeT (D4.refl _) HT.o hg HZW.o;obtain⟨a18,n18,c18,rfl,HN18⟩:=ho.var;have HZ:=I ho;have hs18:=Z.ext.size;have Rc:=r8.o _ Z.ext;have FH:=D5.G9 (E6.o _ Z.ext);have FL:=D5.G8 (E6.o _ Z.ext);have Hs:=D5.Hw (E6.o _ Z.ext);have JR:=D5.Hv (E6.o _ Z.ext);clear ho hg r')
    | (refine bU _ l7 ?_
       refine aO _ _ l7 KY.heap.size (.slice aT nT cT) (List.replicate nA 0) l7 (HT.o.ext (D4.alloc _ _)) _ 1 _ [(1:Int)] l7 (d6.JH w17 _ _ _ l7) t8 (by have:=Z.hz;simp;omega) ?_;intro v18 wZ ho hg r';have Z:=Z.aeT (D4.alloc _ _) (HT.o.ext (D4.alloc _ _)) hg HZW.o;obtain⟨a18,n18,c18,rfl,HN18⟩:=ho.var;have HZ:=I ho;have hs18:=Z.ext.size;have Rc:=r8.o _ Z.ext;have FH:=D5.G9 (E6.o _ Z.ext);have FL:=D5.G8 (E6.o _ Z.ext);have Hs:=D5.Hw (E6.o _ Z.ext);have JR:=D5.Hv (E6.o _ Z.ext);clear ho hg r')
    | fail)
 all_goals
  have HS:=I Z;clear Z adj e0 e1 e2 e12 e21 b12 b21 Rc
  try clear F0
  go_wp2_with rfl;refine GE bz rfl ⟨⟨_,_,_,_,by rw[Ui.o],(((((E8.on HS.o.out).set j9 _).set j9 _).set j9 _).here).mono' O,?_,?_,?_,?_⟩,?_⟩
  ·rw[ahv.o.1,eI];have hA:(List.range nA).map (JV (ec V L) nA)++[lr]=G4 nA V L:=by unfold G4;rw[mr,rN,HLR0.o];rfl
   rw[<-hA];exact(((((bG.on HS.o.rows).set j9 _).set j9 _).set j9 _).here).mono' O
  ·rw[ahv.o.2.1,eI,<-Ek];exact(((((y9.on HZ.o).set t8 _).set t8 _).set t8 _).here).mono O
  ·rw[ahv.o.2.2];exact(((((ZM.on HS.o.c).set j9 _).set j9 _).set j9 _).here).mono O
  ·exact λi k hi hk KE=>by
    have h1:=HS.o.top i k (by rw[<-HS.o.rows.len];exact hi) hk;have h2:=(HZ.o.lt k KE).1;omega
  exact(((B4.o.trans HS.o.ext).store 0 O _).store 1 O _).store 2 O _
theorem AV(e:Nat->o7->o7->o7)(M:o4):∀n,(WF e M n).2<=n
 | 0=>m9 _
 | n+1=>by
   have ih:=AV e M n;unfold WF JM
   split
   ·show(WF e M n).2+1<=n+1;omega
   omega
theorem XV{p:Int}(h:1<=p)(l:o7):gK p l<=p:=by
 unfold gK;split
 ·have:=AV cO (l.map (I9 p.toNat)) p.toNat;omega
 omega
def cY(q:Nat)(V:o7)(L:l9):I':=bH az (G4 q V L) (UA q) (N8 V L)
def H6(fr:o7)(r:I')(k:Nat):l9:=((List.range k).filter λj=>decide (0<(r.X[j]?.getD (0,0)).1)).map λj=>(fr[j]?.getD 0,-r.value.1,r.value.2)
theorem vB(G:o7)(r:I'):H6 G r 0=[]:=rfl
theorem lX(G:o7)(r:I')(k:Nat):H6 G r (k+1)=H6 G r k++if 0<(r.X[k]?.getD (0,0)).1 then [(G[k]?.getD 0,-r.value.1,r.value.2)] else []:=by
 unfold H6;rw[mr,Wq,rN];congr 1;by_cases h:0<(r.X[k]?.getD (0,0)).1
 ·simp[h]
 simp[h]
def NP(q:Nat)(r:I'):o3:=(r.Y.take q).map D2
def GM(V:o7)(L:l9):o7:=bC L (Lp V-2)
def eu(V:o7)(L:l9)(r:I'):l9:=L++H6 (GM V L) r (GM V L).length
def ft(p:Int)(V:o7)(L:l9):Bool:=decide (gK p (((Lp V:Int)-1)::L.map (·.1))=p)
structure L5  where
 ok:Bool
 pt:o3
 st:l9
 rounds:Nat
def L5.no:L5:=⟨false,[],[],0⟩
def LM(p:Int)(V:o7):Nat->l9->Nat->L5
 | 0,_,_=>L5.no
 | f+1,L,k =>
   if GA p V L=true/\(cY p.toNat V L).status=1 then
    (if ft p V (eu V L (cY p.toNat V L))=true then⟨true,NP p.toNat (cY p.toNat V L),eu V L (cY p.toNat V L),k+1⟩
    else LM p V f (eu V L (cY p.toNat V L)) (k+1))
   else L5.no
def JX(p:Int)(V:o7):L5 :=
 if ak p V=true then(if p=1 then⟨true,[(bu p V,1)],[],0⟩ else LM p V (Lp (GM V [])+1) [] 0) else L5.no
theorem zu(X:o3)(row:Nat->Int)(m:Nat)(H:∀j,m<=j->row j=0)(G:∀j,j<m->row j=1)(hx:∀j,j<m->val (X[j]?.getD (0,0))<=0):∀N,B5 (λj=>((row j:Int):Rat)*val (X[j]?.getD (0,0))) N<=0
 | 0=>by simp[B5]
 | N+1=>by
   have ih:=zu X row m H G hx N;simp only[B5];by_cases h:N<m
   ·have:=hx N h;rw[G N h];have e:((1:Int):Rat)=1:=by exact_mod_cast rfl
    rw[e]
    grind
   rw[H N O];have e:((0:Int):Rat)=0:=by exact_mod_cast rfl
   rw[e]
   grind
theorem CU(l:o7)(j:Nat):B8 (aI l) j=((l[j]?.getD 0:Int):Rat):=by
 unfold B8;by_cases h:j<Lp l
 ·rw[pC h,fF]
 rw[mq (by rw[fZ];omega),mq O]
 show val (0,0)=((0:Int):Rat);unfold val;grind
theorem kJ{p:Int}(h:ak p V=true):1<=Lp V/\Lp V<=32/\p=(p.toNat:Int)/\1<=p.toNat/\p.toNat<=5/\∀y∈V,-500<=y/\y<=500:=by
 obtain⟨n,rfl,Q,G,H,_,K⟩:=ap h;have e:(n:Int).toNat=n:=O;rw[e,H];refine⟨?_,?_,rfl,Q,G,K⟩
 ·exact(bp n G).1
 exact(bp n G).2
theorem kE{p:Int}(h:GA p V L=true):ak p V=true/\2<=p/\M9 L ((Lp V:Int)-2) (Lp L)=true/\0<Lp (GM V L):=by
 obtain⟨h1,_⟩:=fg h;have⟨h2,Z⟩:=fg h1;have⟨Q,K⟩:=fg Z;have⟨H,G⟩:=fg K;exact⟨h2,nR Q,H,nR G⟩
theorem Ef{p:Int}(h:GA p V L=true)(hs:(cY p.toNat V L).status=1):H6 (GM V L) (cY p.toNat V L) (Lp (GM V L))≠[]:=by
 intro K;obtain⟨hg,_,_,_⟩:=kE h;obtain⟨h1,_,_,_,_,hV⟩:=kJ hg;obtain⟨v1,_,v3,_⟩:=fD hs;have⟨r,hr⟩:=j7 (cY p.toNat V L);have G:aQ az (G4 p.toNat V L) (UA p.toNat) (N8 V L) r=true:=by rw[hr];exact v3
 rw[<-hr]at hs K;unfold aQ at G;rw[i7 hs]at G;obtain⟨f1,_⟩:=fg G;unfold eQ at f1;obtain⟨_,f2⟩:=fg f1;obtain⟨_,f3⟩:=fg f2;unfold es at f3;have f4:=fp.1 f3 p.toNat (nM.2 (by simp[G4]));have f5:=nR f4;have e1:(G4 p.toNat V L)[p.toNat]?.getD []=List.replicate (Lp (GM V L)) 1++List.replicate (2*(KK (Lp V) L).length) 0:=by
  unfold GM;rw[xW V (bC L (V.length-2)) (KK V.length L) p.toNat,mT rfl h1 hV L];unfold G4;rw[sr,Pp O,tv,NE]
 have e2:(UA p.toNat)[p.toNat]?.getD 0=1:=by
  unfold UA;rw[sr,Pp O,tv,NE];rw[show decide (p.toNat=p.toNat)=true from bl rfl];rfl
 rw[e1,e2]at f5;obtain⟨_,_,_,g4⟩:=eH f5;have hx:∀j,j<Lp (GM V L)->val (r.X[j]?.getD (0,0))<=0:=by
  intro j H;obtain⟨_,_,g3,_⟩:=eH f5;have hv:=(g3 j (by rw[fZ,ar,yl];omega)).2;have af2:¬0<(r.X[j]?.getD (0,0)).1:=by
   intro hp;unfold H6 at K;rw[List.map_eq_nil_iff,List.filter_eq_nil_iff]at K;exact K j (nM.2 H) (bl hp)
  have Iy:=(jd (p:=D2 (r.X[j]?.getD (0,0))) (by rw[ew];exact hv)).1 (by show 0<=-(r.X[j]?.getD (0,0)).1;omega);rw[iG]at Iy
  grind
 have Q:=zu r.X (λj=>(List.replicate (Lp (GM V L)) (1:Int)++List.replicate (2*(KK (Lp V) L).length) 0)[j]?.getD 0) (Lp (GM V L)) (λj H=>by
  show(List.replicate (Lp (GM V L)) (1:Int)++List.replicate (2*(KK (Lp V) L).length) 0)[j]?.getD 0=0;rw[J1 (by rw[yl];exact H),I0]
  split<;>rfl) (λj H=>by
  show(List.replicate (Lp (GM V L)) (1:Int)++List.replicate (2*(KK (Lp V) L).length) 0)[j]?.getD 0=1;rw[nP (by rw[yl];exact H),I0,i7 H];rfl) hx (aI (List.replicate (Lp (GM V L)) (1:Int)++List.replicate (2*(KK (Lp V) L).length) 0)).length
 have e3:val ((1:Int),(1:Int))=1:=by rw[fF];exact_mod_cast rfl
 rw[e3]at g4;have e4:B5 (λj=>B8 (aI (List.replicate (Lp (GM V L)) (1:Int)++List.replicate (2*(KK (Lp V) L).length) 0)) j*B8 r.X j) (aI (List.replicate (Lp (GM V L)) (1:Int)++List.replicate (2*(KK (Lp V) L).length) 0)).length=B5 (λj=>(((List.replicate (Lp (GM V L)) (1:Int)++List.replicate (2*(KK (Lp V) L).length) 0)[j]?.getD 0:Int):Rat)*val (r.X[j]?.getD (0,0))) (aI (List.replicate (Lp (GM V L)) (1:Int)++List.replicate (2*(KK (Lp V) L).length) 0)).length :=
  bX λj _=>by rw[CU];rfl
 rw[e4]at g4;have Z:(1:Rat)<=0:=by rw[g4];exact Q
 exact absurd Z FS
theorem yA{G:o7}{r:I'}(hk:k<=Lp G){f:Int×Int×Int}(h:f∈H6 G r k):f.1∈G:=by
 unfold H6 at h;obtain⟨j,K,rfl⟩:=xl.1 h;have:=nM.1 (UG.1 K).1;have H:j<Lp G:=O;show G[j]?.getD 0∈G;rw[In H,NE];exact cP H
theorem nz(G:o7)(r:I')(k:Nat):Lp (H6 G r k)<=k:=by
 unfold H6;rw[b7];have:=Zn (λj=>decide (0<(r.X[j]?.getD (0,0)).1)) (List.range k);rw[PS]at this;exact this
theorem Du{T:l9}{m:Nat}(H:T≠[])(hm:∀f∈T,f.1∈bC L m):Lp (bC (L++T) m)<Lp (bC L m):=by
 have e:bC (L++T) m=(bC L m).filter λs=>!Iz T s:=by
  unfold bC;rw[List.filter_filter];refine List.filter_congr λs _=>?_;unfold Iz;rw[List.any_append];cases L.any _<;>cases T.any _<;>rfl
 rw[e,List.length_filter_lt_length_iff_exists];have⟨f,G⟩:=List.exists_mem_of_ne_nil T H;refine⟨f.1,hm f G,?_⟩;have:Iz T f.1=true:=hJ.2 ⟨f,G,by simp⟩;rw[this];decide
theorem sV{p:Int}(h:GA p V L=true)(hs:(cY p.toNat V L).status=1):Lp (GM V (eu V L (cY p.toNat V L)))<Lp (GM V L) :=
 Du (Ef h hs) λ_ G=>yA (m9 _) G
theorem sD(V:o7):∀(E:l9) (i:Nat) (c:V9),(aZ V E)[i]?=some c->∃i':Nat,(aZ V E)[i']?=some (c.1,-c.2.1,c.2.2.1,-c.2.2.2.1,c.2.2.2.2)
 | [],i,c,h=>by simp[aZ]at h
 | f::E,0,c,h=>by
   simp only[aZ,Rv,I2,Px,Up,Pi]at h;subst h;exact⟨1,by simp[aZ,I2]⟩
 | f::E,1,c,h=>by
   simp only[aZ,Rv,I2,Px,OX,Up,Pi]at h;subst h;exact⟨0,by simp[aZ,I2]⟩
 | f::E,i+2,c,h=>by
   simp only[aZ,Rv,I2,Px,Nl,OX]at h;have⟨i',G⟩:=sD V E i c h;exact⟨i'+2,by simp only[aZ,Rv,I2,Px,Nl,OX];exact G⟩
theorem Am{q:Nat}{j:Nat}{c:V9}(h:(ec V L)[j]?=some c):FV (G4 q V L) j=(List.range (q+1)).map λk=>c.2.1*Fv (Yi q k c):=by
 unfold FV G4;rw[PX];refine TL λk _=>?_;show((ec V L).map λc=>c.2.1*Fv (Yi q k c))[j]?.getD 0=_;rw[sr,h];rfl
theorem zm{j:Nat}{c:V9}(h:(ec V L)[j]?=some c):(N8 V L)[j]?.getD (0,0)=c.2.2.2:=by
 unfold N8;rw[sr,h];rfl
theorem Qo{p:Int}(h:GA p V L=true)(j:Nat)(Z:j<Lp (N8 V L)):UD (G4 p.toNat V L) (N8 V L) j:=by
 obtain⟨hg,_,_,_⟩:=kE h;obtain⟨h1,_,_,_,_,hV⟩:=kJ hg;have G:=mT rfl h1 hV L;have Q:j<Lp (ec V L):=by unfold N8 at Z;rw[b7]at Z;exact Z
 obtain⟨c,hc⟩:∃c,(ec V L)[j]?=some c:=⟨_,In Q⟩;by_cases K:j<(bS V (bC L (Lp V-2))).length
 ·refine uf ⟨-(V[((bC L (Lp V-2))[j]?.getD 0).toNat]?.getD 0),?_,?_⟩
  ·rw[zm hc];rw[<-G,nP K]at hc;unfold bS at hc;rw[ep]at K;rw[sr,In K,tv,Pi]at hc;rw[<-hc,In K,NE]
  have:=BC hg ((bC L (Lp V-2))[j]?.getD 0).toNat;omega
 refine Rf ?_;have H:=hc;rw[<-G,J1 O]at H;have⟨i',Jm⟩:=sD V _ _ _ H;have hi:(ec V L)[(bS V (bC L (Lp V-2))).length+i']?=some (c.1,-c.2.1,c.2.2.1,-c.2.2.2.1,c.2.2.2.2):=by
  rw[<-G,J1 O,Nat.add_sub_cancel_left];exact Jm
 refine⟨(bS V (bC L (Lp V-2))).length+i',?_,?_,?_⟩
 ·have:=(Ls.1 hi).1;unfold N8;rw[b7];exact this
 ·rw[zm hi,zm hc];rfl
 rw[Am hi,Am hc,PX];refine TL λk _=>?_;show -c.2.1*Fv (Yi p.toNat k c)=-(c.2.1*Fv (Yi p.toNat k c));rw[Int.neg_mul]
theorem Yk{p:Int}(h:GA p V L=true):cY p.toNat V L=fh (G4 p.toNat V L) (UA p.toNat) (N8 V L):=kD λ_ j G=>Qo h j G
theorem Cv{p:Int}(h:ak p V=true)(h2:2<=p)(s:Int):gK p [s]<p:=by
 obtain⟨_,_,hp,_,h5,_⟩:=kJ h;unfold gK;rw[i7 (by unfold A8;simp only[cM,cq];omega)];have:=(kM tQ (mY p.toNat [s]) p.toNat O).2.2.1;have e:Lp ([s].map (I9 p.toNat))=1:=rfl;rw[e]at this;omega
theorem vF{p:Int}(h:GA p V L=true)(hs:(cY p.toNat V L).status=1):
 Lp (GM V L)<=(cY p.toNat V L).X.length/\(cY p.toNat V L).Y.length=p.toNat+1/\A5 (cY p.toNat V L).value=true/\∀k,k<(cY p.toNat V L).Y.length->A5 ((cY p.toNat V L).Y[k]?.getD (0,0))=true:=by
 obtain⟨v1,_,v3,v4,Q,K⟩:=fD hs;refine⟨?_,by rw[show(cY p.toNat V L).Y.length=(UA p.toNat).length from v4];simp[UA],Q,K⟩;have G:aQ az (G4 p.toNat V L) (UA p.toNat) (N8 V L) (cY p.toNat V L)=true:=v3;unfold aQ at G;rw[i7 hs]at G;obtain⟨H,_⟩:=fg G;unfold eQ at H;have Z:=nR (fg H).1;rw[Z];unfold N8 ec GM;rw[b7,ar,ar,ep];omega
theorem uw{p:Int}(h:¬(GA p V L=true/\(cY p.toNat V L).status=1)):LM p V f L k=L5.no:=by
 cases f with
 | zero=>rfl
 | succ f=>unfold LM;rw[f8 h]
def Ox(p:Int)(V:o7)(f:Nat)(pt:o3)(L:l9)(k:Nat):L5:=if ft p V L=true then⟨true,pt,L,k⟩ else LM p V f L k
theorem Cp{p:Int}(hg:ak p V=true)(H:2<=p):Ox p V (Lp (GM V [])+1) [] [] 0=JX p V:=by
 have G:ft p V []=false:=by
  unfold ft;have:=Cv hg H ((Lp V:Int)-1);exact RK (by show¬gK p [(Lp V:Int)-1]=p;omega)
 unfold Ox JX;rw[G,i7 hg,f8 j9,f8 O]
theorem Ej{p:Int}(G:ft p V L=false)(h:GA p V L=true)(hs:(cY p.toNat V L).status=1):
 Ox p V (f+1) pt L k=Ox p V f (NP p.toNat (cY p.toNat V L)) (eu V L (cY p.toNat V L)) (k+1):=by
 unfold Ox;rw[G,f8 j9]
 conv=>lhs;unfold LM
 rw[i7 ⟨h,hs⟩]
theorem AG{p:Int}(G:ft p V L=false)(h:¬(GA p V L=true/\(cY p.toNat V L).status=1)):Ox p V f pt L k=L5.no:=by
 unfold Ox;rw[G,f8 j9,uw h]
theorem Ei{p:Int}(G:ft p V L=true):Ox p V f pt L k=⟨true,pt,L,k⟩:=by
 unfold Ox;rw[G,i7 rfl]
theorem AE{r:I'}(hn:Lp V<=32)(h:∀f∈L,f.1<=1000)(hk:Lp L<=32*k):(∀f∈eu V L r,f.1<=1000)/\Lp (eu V L r)<=32*(k+1):=by
 refine⟨λf H=>?_,?_⟩
 ·rcases Pm.1 H with G|G
  ·exact h f G
  have:=(lN (yA (m9 _) G)).2.1;omega
 unfold eu;rw[ar];have G:=nz (GM V L) r (Lp (GM V L));have h2:Lp (GM V L)<=Lp V-2:=eJ L (Lp V-2);omega
def zs(q:Nat)(z:Nat->Rat)(s:Int):Rat:=B5 (λk=>z k*((Fv (Ia s (k:Int)):Int):Rat)) q
def Mu(q:Nat)(V:o7)(z:Nat->Rat)(s:Int):Rat:=((V[s.toNat]?.getD 0:Int):Rat)-zs q z s
structure S8(q:Nat)(V:o7)(L:l9)(z:Nat->Rat):Prop where
 grand:Mu q V z ((V.length:Int)-1)=0
 fixed:∀f∈L,Mu q V z f.1=val f.2
end
section
variable{X:o3}
theorem iC(s:Int)(w:J):Calls Tryz.prog 252 #[U s] w λe w'=>e=atn (ato (A8 s 0 31))/\w=w':=by
 exact Pu
theorem Ae(s:Nat)(hs:s<32)(w:J):
 Calls Tryz.prog 254 #[U s] w λe w'=>(∃v,e=atn v/\y9 w' w v (JY (s:Int) 5))/\D4 w w':=by
 have FA:A8 (s:Int) 0 31=true:=by unfold A8;simp;omega
 have HG:=I (λw'=>iC (s:Int) w');rw[FA]at HG;have HO1:=I (y9.Ft w w _ rfl (m9 _));go_in
 go_wp2
 go_loopg [3,4] 5 (λgk o i wr=>∃(k:Nat) (Z:o6) (K c1:Nat),e9 (gk+k=5)/\i=U k/\o=FB Z K c1/\e9 (y9 wr w (FB Z K c1) (JY (s:Int) k))/\e9 (D4 w wr))
 ·exact I1
 obtain⟨k,Z,K,c1,HK,rfl,rfl,aa,A6⟩:=hrel;have hsz:=A6.size;by_cases hlt:k<5
 ·have HB:=I (dG (s:Int) k O O);cases G:M2 (s:Int) k
  ·rw[G]at HB;have HS:=I G;go_wp2_with (first|(go_at_call 252;refine(HG _).mono ?_;rintro e H ⟨rfl,rfl⟩)|(go_at_call 173;refine(bE _ _ _ O).mono ?_;rw[HB.o];rintro e H ⟨rfl,rfl⟩))
   refine dk ?_;exact⟨k+1,Z,K,c1,I (l8 HK.o),by go_num,rfl,I (by rw[lV,HS.o];simpa using aa.o),A6⟩
  rw[G]at HB;have HS:=I G
  go_wp2_with (first
   | (go_at_call 252;refine(HG _).mono ?_;rintro e H ⟨rfl,rfl⟩)
   | (go_at_call 173;refine(bE _ _ _ O).mono ?_;rw[HB.o];rintro e H ⟨rfl,rfl⟩)
   | (at_builtin;refine Wp ((k:Int)) aa A6 (l8 (rz (s:Int) k)) λa2 n2 c2 H Jb X5 Gh=>?_))
  refine dk ?_;exact⟨k+1,a2,n2,c2,I (l8 HK.o),by go_num,rfl,I (by rw[lV,HS.o];exact Gh),X5⟩
 have OE:k=5:=l8 HK.o;subst OE;go_wp2_with (go_at_call 252;refine(HG _).mono ?_;rintro e H ⟨rfl,rfl⟩);go_ret;exact⟨⟨_,rfl,aa⟩,A6⟩
def I4(X:o3):o7->o8->Option (Int×Int)
 | [],a=>some a
 | k::l,a=>if(Lp X:Int)<=k then none else if(F6 a (X[k.toNat]?.getD (0,0))).2=true then I4 X l (F6 a (X[k.toNat]?.getD (0,0))).1 else none
theorem mu(X:o3):∀(l G:o7) (a:o8),I4 X (l++G) a=(I4 X l a).bind (I4 X G)
 | [],G,a=>rfl
 | k::l,G,a=>by
   simp only[Px,I4]
   split
   ·rfl
   split
   ·exact mu X l G _
   rfl
def cw(X:o3)(s:Nat):Option (Int×Int):=I4 X (JY (s:Int) 5) (0,1)
theorem lY{l:o7}{k:Nat}{a b:o8}(H:k<Lp l)(h:I4 X (l.take k) a=some b)(G:I4 X [l[k]?.getD 0] b=none):I4 X l a=none:=by
 have e:l=l.take k++(l[k]?.getD 0::l.drop (k+1)):=by
  rw[In H,NE,<-Xd H,YP]
 rw[e,mu,h];show I4 X (l[k]?.getD 0::l.drop (k+1)) b=none;simp only[I4]at G⊢;split
 ·rfl
 next h1 =>
 rw[f8 h1]at G;split
 ·next h2=>rw[i7 h2]at G;cases G
 rfl
theorem vJ{l:o7}{k:Nat}{a b c:o8}(G:k<Lp l)(h:I4 X (l.take k) a=some b)(H:I4 X [l[k]?.getD 0] b=some c):I4 X (l.take (k+1)) a=some c:=by
 rw[cD G,mu,h];exact H
def Wm(h:σ:=by
 go_cut [9,10] (λsx so wx=>∃g:Nat,sx=ats (some (IM g 0))/\so=ato ok/\e9 (ai wr wx g p2 q2))
 case first =>
  have r7:D4 wr wr.drew:=D4.drew wr;have Fu:D4 wr (wr.alloc (SH #[U 0,U 0] 80)).drew:=ZL.trans fl;have r8:=I (λ(w':J) (h:D4 wr w')=>(an (h.o9 I7) (an (h.o9 Gm) (an (h.o9 hlc) (an (h.o9 TM) (an (h.o9 UI) h))))))
  go_region_held3 (λw'=>w'.cell? (IM w1.heap.size 0)=some (U p)/\w'.cell? (IM w1.heap.size 1)=some (U q)/\w'.cell? (IM lb (Yw+k))=some (U j)/\w'.cell? (IM xb (Py+j*2))=some (U x)/\w'.cell? (IM xb (Py+j*2+1))=some (U y)/\D4 wr w')
   (exact yg)
   (first
     | ((with_reducible refine(qq0 _ _ _ _ _).mono ?_)
        rw[Gi.o];rintro e w5 ⟨rfl,B7⟩
        try with_reducible first|have A7:=ai.grow A7 B7|have A7:=ai.Fk B7|have A7:=ai.Fq r7 B7
        try(have Ko:=A7.c0;have Kn:=A7.c1;have L4:=A7.free)
        have r7:D4 wr w5:=TH;have G7:=r7.size))
  all_goals(exact yx)
 obtain⟨g,rfl,rfl,GL⟩:=hcut;have g0:=GL.c0;have g1':=GL.c1;have MJ:=HB.grow GL.ext;have hX3:=MJ.ext;have hm3:=HM.ext GL.ext;have Ua:=MJ.c0;have T':=MJ.c1;have hbf:=MJ.free;have F1:=I MJ;have C5:=I hX3;have LG:=I hm3;clear I7 Gm hlc TM UI MJ hX3 hm3;cases ok
 ·have HN:=I (show cw X s=none by rw[Q2.o];exact lY Hk.o HT.o (by rw[Hx.o];rfl));have hr:=bO (IE wc C5);obtain⟨FH,FL,JR⟩:=hr;go_wp2;refine GE (by simp[results,qq1,go_sem,FH,FL]<;>rfl) rfl ⟨by rw[HN.o];rfl,(((Ig.trans C5).store 0 (m9 _) _).store 1 (m9 _) _)⟩
 ·have GJ:=I (vJ Hk.o HT.o (by rw[Hx.o];rfl))
  have M3:=I (show y9 ((wc.setCell (IM w1.heap.size 0) (U p2)).setCell (IM w1.heap.size 1) (U q2)) w1.heap.size (FB (some (IM lb Yw)) nm cm) mem from
   LG.keep λi hi=>by
    have:i≠w1.heap.size:=λe=>aq LG.o F1.cell FS (by rw[hi,e])
    rw[If _ _ _ _ this,If _ _ _ _ this])
  have Hc:=I (F1.put p2 q2);go_wp2_with rfl;refine dk ?_;exact⟨k+1,p2,q2,I (l8 HK.o),by go_num,Hc,GJ,M3⟩
 ):σ:=h
def Rt(h:σ:=by
 have hr:=bO (IE wr HB.ext);obtain⟨FH,FL,JR⟩:=hr;go_wp2;refine GE Ix rfl ⟨by rw[HY.o];rfl,(((Ig.trans HB.ext).store 0 (m9 _) _).store 1 (m9 _) _)⟩
 ):σ:=h
def OC(h:σ:=by
 have Zx:(X.length:Int)<=(j:Int):=by rw[HL.o];omega
 have HN:=I (show cw X s=none by rw[Q2.o];exact lY GF HT.o (by rw[hj];simp only[I4];rw[i7 Zx]));have hr:=bO (IE wr HB.ext);obtain⟨FH,FL,JR⟩:=hr;have hge:(j:Int)≥(n:Int):=by omega
 clear hj Zx;go_wp2;refine GE Ix rfl ⟨by rw[HN.o];rfl,(((Ig.trans HB.ext).store 0 (m9 _) _).store 1 (m9 _) _)⟩
 ):σ:=h
def NF(h:σ:=by
 exact⟨0,0,1,I O,rfl,Mo,I rfl,I (OT.mono j9)⟩
 ):σ:=h
theorem vW{w:J}{a:o6}{n cap:Nat}(h:i8 w a n cap X)(s:Nat)(hs:s<32):
 f9 170 #[FB a n cap,.int .i64 (s:Int)] w (Kg ((cw X s).getD (0,0),(cw X s).isSome)):=by
 have HL:=I h.hlen;have y7:=h.y7;have y8:=h.y8;have B9:=D4.alloc w (SH #[.int .i64 0,.int .i64 0] 80);refine Fn (h.ext B9) B9 (ah w (SH #[.int .i64 0,.int .i64 0] 80) _ rfl) λHI B4 E6=>?_;clear h B9;(try unfold f9);go_in
 go_wp2_with rfl;refine i6 (cV 0 _) λw1 B0=>?_;have A6:=I B0;have hs31:¬((s:Int) > 31):=O;have ME:¬((s:Int)<0):=O;clear B0;go_wp2_with rfl;refine PP (Ae s hs _) λw2 v2 Is C9=>?_;obtain⟨am,nm,cm,rfl,K⟩:=Is.var;refine Fn Is ((ai.new (D4.refl w1) 0 1).grow C9) K.out λOT Mo H=>?_;have Zs:=Is.ints.y7;have Zr:=Is.ints.y8;clear Is C9 K;have⟨mem,T4⟩:=j7 (JY (s:Int) 5);have U':=I (λi h=>uv (s:Int) i h);rw[<-T4]at OT H U';have Q2:=I (show cw X s=I4 X mem (0,1)by unfold cw;rw[T4]);clear T4;have IE:=I (λ(w':J) (hx:D4 w1 w')=>(hx.block _ Um).trans ((A6.block _ (IO E6)).trans E6));have Ig:=I (B4.trans A6);have Ze:w.heap.size<w1.heap.size:=by have:=IO E6.o;have:=A6.size;omega
 go_wp2
 go_loopg [8] nm (λgk ii wr=>∃(k:Nat) (p q:Int),e9 (gk+k=nm)/\ii=.int .i64 (k:Int)/\e9 (ai w1 wr w1 p q)/\e9 (I4 X (mem.take k) (0,1)=some (p,q))/\e9 (y9 wr w1 (FB am nm cm) mem))
 ·exact NF
 obtain⟨k,p,q,HK,rfl,HB,HT,HM⟩:=hrel;have I7:=HB.c0;have Gm:=HB.c1;have LZ:=HB.lt;have afU:=HB.ext.size;by_cases Z:k<nm
 ·have GF:k<Lp mem:=by rw[H.o];exact Z
  obtain⟨j,hj,hj5,_,_⟩:=U'.o k GF;have⟨lb,Yw,hle,hlc⟩:=HM.ints.at Z;subst hle;rw[hj]at hlc;by_cases JK:j<n
  ·have⟨xb,Py,x,y,Vo,FI,TM,UI⟩:=(HI.ext (A6.trans HB.ext)).at JK;subst Vo;have Zx:¬(Lp X:Int)<=(j:Int):=by rw[HL.o];omega
   obtain⟨p2,q2,ok,Fw⟩:∃p2 q2 ok,F6 (p,q) (x,y)=((p2,q2),ok):=⟨_,_,_,rfl⟩;have Gi:=I Fw;have Hx:=I (show I4 X [mem[k]?.getD 0] (p,q)=if ok=true then some (p2,q2) else none by
    rw[hj];simp only[I4];rw[f8 Zx,eI,FI,Fw])
   have Hk:=I GF;clear hj Fw FI GF Zx;go_upto_region 10 with rfl
   have qq0:=@jr;have qq1:=@zo;exact Wm
  have qq0:=@zo;exact OC
 have E':nm=k:=l8 HK.o;subst E';have HY:=I (show cw X s=some (p,q)by
  rw[Q2.o];have h:=HT.o;rwa [aP (by rw[H.o];exact m9 _)]at h)
 have qq0:=@zo;exact Rt
def Gf(p:Int)(V:o7)(X:o3):Bool :=
 ak p V&&(decide ((Lp X:Int)=p)&&(Hf X&&decide (cw X (Lp V-1)=some (bu p V,1))))
def Vo(h:σ:=by
 have HX:=I (D4.alloc w (SH #[U p,FB a n cap] 31));have HL:=I h.hlen;have HLX:=I hx.hlen;have HI:=I (h.ext HX);have HR:=I (hx.ext HX);have ajp:=hx.y7;have ajo:=hx.y8;have HV:=I (qq0 (p:=p) HI);clear h hx;cases hv:ak p V
 ·rw[hv]at HV;have HP:=I (show Gf p V X=false by unfold Gf;rw[hv];rfl);clear hv;(try unfold f9);go_in
  go_wp2_with rfl;refine HV.mono ?_;rintro e w1 ⟨rfl,hx⟩;have X1:=I (HX.trans hx);clear hx;go_wp2;go_ret;exact⟨ag HP.symm,X1⟩
 rw[hv]at HV;obtain⟨q,rfl,h1,h5,hlen,_,Kw⟩:=ap hv;have Hb:=I hv;have hN:=bp q h5;obtain⟨u,rfl⟩:∃u,n=u+1:=⟨n-1,by have:=HL.o;omega⟩;have Y7:u<=31:=by have:=HL.o;omega
 have Gj:=I (show -500<=bu (q:Int) V/\bu (q:Int) V<=500 by rw[eW hv];exact du Kw _);clear hv hlen Kw hN;by_cases hml:m=q
 ·subst hml;have Rm:=I (λ(w':J) (hx:D4 (w.alloc (SH #[U m,FB a (u+1) cap] 31)) w')=>qq1 (HR.ext hx));cases Rg:Hf X
  ·have HP:=I (show Gf (m:Int) V X=false by unfold Gf;rw[Rg];simp);rw[Rg]at Rm;clear Rg;(try unfold f9);go_in
   go_wp2_with rfl;refine HV.mono ?_;rintro e w1 ⟨rfl,hx⟩;have c0:w1.cell? (IM w.heap.size 0)=some (U m):=hx.o9 j9;have QO:((m:Int) != (m:Int))=false:=by simp
   have HA1:=I (Rm w1 hx);have X1:=I (HX.trans hx);clear hx;go_wp2_with rfl;refine HA1.mono ?_;rintro e w2 ⟨rfl,C9⟩;have X2:=I (X1.trans C9);clear C9;go_wp2;go_ret;exact⟨ag HP.symm,X2⟩
  rw[Rg]at Rm;have ahI:=I Rg;clear Rg;(try unfold f9);go_in
  go_wp2_with rfl;refine HV.mono ?_;rintro e w1 ⟨rfl,hx⟩;have c0:w1.cell? (IM w.heap.size 0)=some (U m):=hx.o9 j9;have c1:w1.cell? (IM w.heap.size 1)=some (FB a (u+1) cap):=hx.o9 j9;have QO:((m:Int) != (m:Int))=false:=by simp
  have HA1:=I (Rm w1 hx);have X1:=I hx;clear hx;go_wp2_with rfl;refine HA1.mono ?_;rintro e w2 ⟨rfl,C9⟩;have X2:=I (X1.trans C9);replace c0:=C9.o9 c0;replace c1:=C9.o9 c1;clear C9;have Mj:((u+1:Nat):Int)-1=(u:Int):=by omega
  have RN:=I (qq2 (HR.ext X2) u O);have HPE:=I (show Gf (m:Int) V X=decide (cw X u=some (bu (m:Int) V,1))by
   unfold Gf;rw[Hb.o,ahI.o,bl (by rw[HLX.o]),HL.o];rfl)
  cases hsh:cw X u with
  | none =>
    have HF:=I (show Gf (m:Int) V X=false by rw[HPE.o,hsh];rfl);rw[hsh]at RN;clear hsh;go_wp2_with rfl;refine RN.mono ?_;rintro e w3 ⟨rfl,C0⟩;have X3:=I ((HX.trans X2).trans C0);clear C0;go_wp2_with rfl
    go_quiet (fail)
    go_wp2;go_ret;exact⟨ag HF.symm,(X3.trans ZL).trans (F8.ext ⟨_,rfl⟩)⟩
  | some r =>
    obtain⟨r1,r2⟩:=r;have HF:=I (show Gf (m:Int) V X=(decide (r1=bu (m:Int) V)&&decide (r2=1))by
     rw[HPE.o,hsh];simp)
    rw[hsh]at RN;clear hsh;go_wp2_with rfl;refine RN.mono ?_;rintro e w3 ⟨rfl,C0⟩;replace c0:=C0.o9 c0;replace c1:=C0.o9 c1;have X3:=I (X2.trans C0);clear C0;have⟨E,hE⟩:=j7 (w3.alloc (SH #[U r1,U r2] 80));have Ic:D4 w3 E:=by rw[hE];exact ZL
    have XE:=I (X3.trans Ic);have e0:=Ic.o9 c0;have e1:=Ic.o9 c1;have b0:E.cell? (IM w3.heap.size 0)=some (U r1):=by rw[hE];simp
    have b1:E.cell? (IM w3.heap.size 1)=some (U r2):=by rw[hE];simp
    have Lx:=I (λ(w':J) (hx:D4 E w')=>qq3 (p:=(m:Int)) ((HI.ext XE).ext hx));have⟨G,hG⟩:=j7 (bu (m:Int) V);rw[<-hG]at HF Lx;clear hG;go_upto_region 4 with rfl;rw[<-hE];clear hE c0 c1 Ic;have r7:D4 E E.drew:=D4.drew E;have r8:=I λw' (h:D4 E w')=>TX (h.o9 e0) (TX (h.o9 e1) (TX (h.o9 b0) (TX (h.o9 b1) h)));cases B0:(r1 == G)
    all_goals
     cases F7:(r2 == 1)
    all_goals
     have HF2:=I (show Gf (m:Int) V X=((r1 == G)&&(r2 == 1))by rw[HF.o];rw[uu];simp);rw[B0,F7]at HF2
     go_region_held3 (λw'=>w'.cell? (IM w.heap.size 0)=some (U m)/\w'.cell? (IM w.heap.size 1)=some (FB a (u+1) cap)/\w'.cell? (IM w3.heap.size 0)=some (U r1)/\w'.cell? (IM w3.heap.size 1)=some (U r2)/\D4 E w')
      (first
        | with_reducible exact r8.o _ r7)
      (first
        | ((with_reducible refine(Lx.o _ r7).mono ?_)
           rintro e w4 ⟨rfl,E4⟩;have r7:D4 E w4:=r7.trans E4)
        | ((with_reducible refine(qq4 _ _).mono ?_)
           rintro e w5 ⟨rfl,F'⟩;have r7:D4 E w5:=r7.trans F'))
     all_goals
      go_wp2;go_ret;exact⟨ag (by rw[HF2.o];rfl),HX.trans (XE.trans r7)⟩
 ·have HP:=I (show Gf (q:Int) V X=false by unfold Gf;rw[RK (by rw[HLX.o];omega:¬(X.length:Int)=(q:Int))];simp);have QO:((m:Int) != (q:Int))=true:=by simp;omega
  (try unfold f9);go_in
  go_wp2_with rfl;refine HV.mono ?_;rintro e w1 ⟨rfl,hx⟩;have c0:w1.cell? (IM w.heap.size 0)=some (U q):=hx.o9 j9;have X1:=I (HX.trans hx);clear hx;go_wp2;go_ret;exact⟨ag HP.symm,X1⟩
 ):σ:=h
theorem nN{w:J}{p:Int}{a:o6}{n cap:Nat}{V:o7}(h:d6 w a n cap V){b:o6}{m Gl:Nat}(hx:i8 w b m Gl X):
 f9 98 #[Id p a n cap,FB b m Gl] w (ato (Gf p V X)):=by
 have qq0:=@bY;have qq1:=@kA;have qq2:=@vW;have qq3:=@iY;have qq4:=@cV;exact Vo
end
section
variable{V:o7}{X:o3}{m k:Nat}
def PW(v:Int)(r:o8):Option (Int×Int):=if(FD (v,1) r).2=true then some (FD (v,1) r).1 else none
def He(V:o7)(X:o3)(s:Nat):Option (Int×Int):=(cw X s).bind (PW (V[s]?.getD 0))
def NS(V:o7)(X:o3)(lo m:Nat):Option (o3):=Nm (λk=>He V X (lo+k)) m
def Gt(p:Int)(V:o7)(X:o3):Option (o3):=if Gf p V X=true then NS V X 1 (Lp V-2) else none
def fK(p:Int)(V:o7)(X:o3):Bool:=match Gt p V X with
 | none=>false
 | some l=>l.all λe=>decide (e.1<=0)
theorem wR{p:Int}(h:Gf p V X=false):Gt p V X=none:=by unfold Gt;rw[f8 (by rw[h];simp)]
theorem mB{p:Int}(h:Gf p V X=true):Gt p V X=NS V X 1 (Lp V-2):=by unfold Gt;rw[i7 h]
theorem dS{p:Int}{l:o3}(h:Gt p V X=some l):Gf p V X=true/\Lp l=Lp V-2:=by
 unfold Gt at h;split at h
 ·next G=>exact⟨G,cZ h⟩
 cases h
theorem dY{p:Int}(h:Gf p V X=true):ak p V=true:=by
 unfold Gf at h;simp only[cM]at h;exact h.1
theorem sX{p:Int}(h:Gf p V X=true):ak p V=true/\(Lp X:Int)=p/\Hf X=true/\cw X (Lp V-1)=some (bu p V,1):=by
 unfold Gf at h;simp only[cM,cq]at h;exact h
abbrev RR:Type:=o8
variable{l:List RR}{x y:RR}
def Ny(x y:RR):Bool:=!decide (D' x y<0)
theorem jf(hx:A5 x=true)(G:A5 y=true):Ny x y=true↔val y<=val x:=by
 rw[<-pz hx G];unfold Ny;simp
theorem lO(hx:A5 x=true)(G:A5 y=true):Ny x y=true∨Ny y x=true:=by
 rw[jf hx G,jf G hx];rcases Rat.le_total (a:=val y) (b:=val x)with h|h
 ·exact .inl h
 exact .inr h
theorem oP{z:RR}(hx:A5 x=true)(G:A5 y=true)(hz:A5 z=true)(h:Ny x y=true)(k:Ny y z=true):Ny x z=true:=by
 rw[jf hx G]at h;rw[jf G hz]at k;rw[jf hx hz];exact Rat.le_trans k h
theorem xu(hx:A5 x=true)(G:A5 y=true)(h:Ny x y=true)(k:Ny y x=true):x=y:=by
 rw[jf hx G]at h;rw[jf G hx]at k;exact Bf hx G (Rat.le_antisymm k h)
def Kh(x:RR)(l:List RR):Nat->Nat
 | 0=>0
 | m+1=>if D' (l[m]?.getD (0,0)) x<0 then Kh x l m else m+1
def Sn(x:RR)(l:List RR):List RR:=l.take (Kh x l (Lp l))++x::l.drop (Kh x l (Lp l))
def I3(l:List RR):Nat->List RR
 | 0=>[]
 | k+1=>Sn (l[k]?.getD (0,0)) (I3 l k)
def Jo(l:List RR):List RR:=I3 l l.length
theorem uA(x:RR)(l:List RR):∀m,Kh x l m<=m
 | 0=>m9 _
 | m+1=>by
   unfold Kh
   split
   ·have:=uA x l m;omega
   omega
theorem pe(h:¬D' (l[m]?.getD (0,0)) x<0):Kh x l (m+1)=m+1:=by rw[Kh,f8 h]
theorem uz(h:D' (l[m]?.getD (0,0)) x<0):Kh x l (m+1)=Kh x l m:=by rw[Kh,i7 h]
theorem tf{x:RR}{l:List RR}:∀{m i:Nat},Kh x l m<=i->i<m->D' (l[i]?.getD (0,0)) x<0
 | m+1,i,h,hi=>by
   by_cases hc:D' (l[m]?.getD (0,0)) x<0
   ·rw[uz hc]at h;by_cases G:i=m
    ·rw[G];exact hc
    exact tf h O
   rw[pe hc]at h;omega
theorem yE{x:RR}{l:List RR}:∀{m:Nat},0<Kh x l m->¬D' (l[Kh x l m-1]?.getD (0,0)) x<0
 | 0,h=>by simp[Kh]at h
 | m+1,h=>by
   by_cases hc:D' (l[m]?.getD (0,0)) x<0
   ·rw[uz hc]at h⊢;exact yE h
   rw[pe hc,Nat.add_sub_cancel];exact hc
theorem YN(x:RR)(l:List RR):Lp (Sn x l)=Lp l+1:=by
 have:=uA x l (Lp l);unfold Sn;simp only[ar,mg,jt,C3];omega
theorem nZ(l:List RR):∀k,Lp (I3 l k)=k
 | 0=>rfl
 | k+1=>by rw[I3,YN,nZ l k]
theorem DK(x:RR)(l:List RR):(Sn x l).Perm (l++[x]):=by
 unfold Sn;refine List.perm_middle.trans ?_;rw[YP];exact(List.perm_append_singleton x l).symm
theorem tP(h:k<Lp l):l.take (k+1)=l.take k++[l[k]?.getD (0,0)]:=by
 rw[tn h];simp[h]
theorem pw(l:List RR):∀k,k<=Lp l->(I3 l k).Perm (l.take k)
 | 0,_=>by simp[I3]
 | k+1,h=>by
   rw[I3,tP O];exact(DK _ _).trans ((pw l k O).append_right _)
theorem wm(l:List RR):(Jo l).Perm l:=by
 have:=pw l (Lp l) (m9 _)
 rwa [Wt]at this
theorem zU(hx:A5 x=true)(hl:∀y∈l,A5 y=true)(h:l.Pairwise λa b=>Ny a b=true):(Sn x l).Pairwise λa b=>Ny a b=true:=by
 have⟨p,hp⟩:=j7 (Kh x l (Lp l));have hle:=uA x l (Lp l);have Z:l=l.take p++l.drop p:=(YP p l).symm;have h2:=h;rw[Z,List.pairwise_append]at h2;obtain⟨ht,hd,Td⟩:=h2;have UI:∀b∈l.drop p,Ny x b=true:=by
  intro b hb;obtain⟨i,hi,rfl⟩:=List.mem_drop_iff_getElem.1 hb;have hc:=tf (x:=x) (l:=l) (m:=Lp l) (i:=p+i) O O;rw[In O,NE]at hc;have hv:=hl _ (cP (show p+i<Lp l by omega));rcases lO hx hv with H|H
  ·exact H
  unfold Ny at H;rw[bl hc]at H;cases H
 have Nc:∀a∈l.take p,Ny a x=true:=by
  intro a K;obtain⟨i,hi,rfl⟩:=Xi.1 K;have hip:i<p:=O;have MG:p-1<Lp l:=O;have hc:=yE (x:=x) (l:=l) (m:=Lp l) O;rw[<-hp,In MG,NE]at hc;have G:Ny l[p-1] x=true:=by unfold Ny;rw[RK hc];rfl
  by_cases K2:i=p-1
  ·subst K2;exact G
  have:=List.pairwise_iff_getElem.1 h i (p-1) O MG O;exact oP (hl _ (cP _)) (hl _ (cP _)) hx this G
 unfold Sn;rw[<-hp,List.pairwise_append];refine⟨ht,List.pairwise_cons.2 ⟨UI,hd⟩,λa K b hb=>?_⟩;rcases OI.1 hb with rfl|hb
 ·exact Nc a K
 exact Td a K b hb
theorem Xc(H:∀y∈l,A5 y=true)(K:k<=Lp l):∀y∈I3 l k,A5 y=true:=λy G =>
 H y (List.mem_of_mem_take ((pw l k K).mem_iff.1 G))
theorem qF{l:List RR}(G:∀y∈l,A5 y=true):∀k,k<=Lp l->(I3 l k).Pairwise λa b=>Ny a b=true
 | 0,_=>List.Pairwise.nil
 | k+1,h=>by
   rw[I3];refine zU ?_ (Xc G O) (qF G k O);rw[In O,NE];exact G _ (cP _)
theorem Fd{m:List RR}(G:∀y∈l,A5 y=true)(H:m.Perm l)(hs:m.Pairwise λa b=>Ny a b=true):m=Jo l:=by
 refine List.Perm.eq_of_pairwise (le:=λa b=>Ny a b=true) (λa b K hb Z Q=>xu (G a (H.mem_iff.1 K)) (G b ((wm l).mem_iff.1 hb)) Z Q) hs (qF G (Lp l) (m9 _)) (H.trans (wm l).symm)
def JN(l:List RR):Nat->List RR
 | 0=>[]
 | k+1=>if 0<k/\l[k]?.getD (0,0)=l[k-1]?.getD (0,0) then JN l k else JN l k++[l[k]?.getD (0,0)]
theorem oF(h:0<k)(e:l[k]?.getD (0,0)=l[k-1]?.getD (0,0)):JN l (k+1)=JN l k:=by rw[JN,i7 ⟨h,e⟩]
theorem oH(h:¬(0<k/\l[k]?.getD (0,0)=l[k-1]?.getD (0,0))):JN l (k+1)=JN l k++[l[k]?.getD (0,0)]:=by rw[JN,f8 h]
theorem qJ(l:List RR):∀k,Lp (JN l k)<=k
 | 0=>m9 _
 | k+1=>by
   have:=qJ l k;rw[JN]
   split
   ·omega
   simp;omega
structure Q7(l M:List RR)(i j:Nat):Prop where
 len:M.length=l.length
 lt:i<j
 pos:0<i
 jl:j<=l.length
 lo:M.take i=JN l j
 hi:∀k,i<=k->M[k]?.getD (0,0)=l[k]?.getD (0,0)
theorem Q7.start(G:0<k)(hl:k<Lp l)(H:JN l k=l.take k)(K:l[k]?.getD (0,0)=l[k-1]?.getD (0,0)):Q7 l l k (k+1) :=
 ⟨rfl,by omega,G,by omega,by rw[oF G K,H],λ_ _=>rfl⟩
theorem Q7.drop{M:List RR}{i j:Nat}(h:Q7 l M i j)(hj:j<Lp l)(G:l[j]?.getD (0,0)=l[j-1]?.getD (0,0)):Q7 l M i (j+1) :=
 ⟨h.len,by have:=h.lt;omega,h.pos,by omega,by rw[oF (by have:=h.lt;have:=h.pos;omega) G,h.lo],h.hi⟩
theorem Q7.keep{M:List RR}{i j:Nat}(h:Q7 l M i j)(hj:j<Lp l)(G:¬l[j]?.getD (0,0)=l[j-1]?.getD (0,0)):Q7 l (M.set i (l[j]?.getD (0,0))) (i+1) (j+1):=by
 have hi:i<Lp M:=by have:=h.lt;have:=h.len;omega
 refine⟨by rw[km];exact h.len,by have:=h.lt;omega,by omega,by omega,?_,λk hk=>?_⟩
 ·rw[oH (λH=>G H.2),<-h.lo,tn (by rw[km];exact hi),M5 (m9 _),List.getElem_set_self]
 rw[pk O];exact h.hi k O
theorem oG(K:k<Lp l)(H:JN l k=l.take k)(Q:k=0∨¬l[k]?.getD (0,0)=l[k-1]?.getD (0,0)):JN l (k+1)=l.take (k+1):=by
 rw[oH (λZ=>by
    rcases Q with G|G;· omega
    exact G Z.2),H,tP K]
def Jf(l:List RR)(e:RR):Nat->o7
 | 0=>[]
 | k+1=>if D' (l[k]?.getD (0,0)) e<0 then Jf l e k else Jf l e k++[((k+1:Nat):Int)]
theorem oX{e:RR}(h:D' (l[k]?.getD (0,0)) e<0):Jf l e (k+1)=Jf l e k:=by rw[Jf,i7 h]
theorem oY{e:RR}(h:¬D' (l[k]?.getD (0,0)) e<0):Jf l e (k+1)=Jf l e k++[((k+1:Nat):Int)]:=by rw[Jf,f8 h]
theorem np(l:List RR)(e:RR):∀k,Lp (Jf l e k)<=k
 | 0=>m9 _
 | k+1=>by
   have:=np l e k;rw[Jf]
   split
   ·omega
   simp;omega
def ND(l:List RR)(k:Nat):o4:=(JN (Jo l) k).map λe=>Jf l e l.length
def Vm(l:List RR):o4:=ND l l.length
theorem DR(h:0<k)(e:(Jo l)[k]?.getD (0,0)=(Jo l)[k-1]?.getD (0,0)):ND l (k+1)=ND l k:=by unfold ND;rw[oF h e]
theorem vu(h:¬(0<k/\(Jo l)[k]?.getD (0,0)=(Jo l)[k-1]?.getD (0,0))):ND l (k+1)=ND l k++[Jf l ((Jo l)[k]?.getD (0,0)) l.length]:=by unfold ND;rw[oH h,rN];rfl
theorem ym(l:List RR)(k:Nat):Lp (ND l k)<=k:=by unfold ND;rw[b7];exact qJ _ _
theorem ju(l:List RR):Lp (Jo l)=Lp l:=nZ l _
def Mv(p:Int)(V:o7)(X:List RR):o4:=Vm ((Gt p V X).getD [])
theorem vt{p:Int}{X:List RR}(h:Gt p V X=none):Mv p V X=[]:=by unfold Mv;rw[h];rfl
theorem oZ{p:Int}{X:List RR}(h:Gt p V X=some l):Mv p V X=Vm l:=by unfold Mv;rw[h];rfl
theorem Z5{X:List RR}{s:Nat}(h:He V X s=some x):A5 x=true:=by
 unfold He at h;cases hs:cw X s with
 | none=>rw[hs]at h;cases h
 | some r =>
   rw[hs]at h;change PW _ r=some x at h;unfold PW at h
   split at h
   ·next G =>
    simp only[Pi]at h;rw[<-h];unfold FD at G⊢;split
    ·next h2=>rw[i7 h2]at G;exact jR G
    next h2=>rw[f8 h2]at G;cases G
   cases h
theorem Xy{f:Nat->Option RR}{r:List RR}(h:Nm f m=some r){P:RR->Prop}(G:∀i x,f i=some x->P x):∀x∈r,P x:=by
 intro x hx;obtain⟨i,hi,rfl⟩:=ZW.1 hx;have hl:=cZ h;have:=iF h i O;rw[In hi,NE]at this;exact G i _ this
theorem VT{p:Int}{X:List RR}(h:Gt p V X=some l):∀y∈l,A5 y=true:=by
 have G:=(dS h).1;rw[mB G]at h;exact Xy h λi x hx=>Z5 hx
end
section
def YK(n:Nat)(z:Nat->Rat)(r:o7):Rat:=B5 (λj=>((r[j]?.getD 0:Int):Rat)*z j) n
structure Tm(n:Nat)(z:Nat->Rat)(m c:Nat)(T:o4):Prop where
 len:T.length=m
 cm:c<=m
 wid:∀i,i<m->(T[i]?.getD []).length=n
 ann:∀i,i<m->YK n z (T[i]?.getD [])=0
 dia:∀i,i<c->(T[i]?.getD [])[i]?.getD 0≠0
 low:∀i j,i<m->j<i->j<c->(T[i]?.getD [])[j]?.getD 0=0
def QS:Nat->Nat->Nat
 | 0,_=>1
 | n+1,B=>B*QS n (2*B*B)
def NZ{B p a c r:Int}(h0:0<=B)(Q:-B<=p/\p<=B)(K:-B<=a/\a<=B)(H:-B<=c/\c<=B)(G:-B<=r/\r<=B):-(2*B*B)<=p*a-c*r/\p*a-c*r<=2*B*B:=by
 have e:∀x y:Int,-B<=x/\x<=B->-B<=y/\y<=B->-(B*B)<=x*y/\x*y<=B*B:=λx y hx hy=>by
  have a1:=ct (show 0<=B-x by omega) (show 0<=B+y by omega);have a2:=ct (show 0<=B+x by omega) (show 0<=B-y by omega);have a3:=ct (show 0<=B-x by omega) (show 0<=B-y by omega);have a4:=ct (show 0<=B+x by omega) (show 0<=B+y by omega);constructor<;>grind
 have:=e p a Q K;have:=e c r H G
 grind
end
section
variable{a b:o6}{m n Gl:Nat}{V:o7}{w:J}{X:o3}
theorem y0(b:Bool):0<=Fv b/\Fv b<=1:=by cases b<;>decide
theorem pj{a b:Int}{A B:Nat}(h:a.natAbs<=A)(k:b.natAbs<=B):(a*b).natAbs<=A*B:=by rw[S3];exact yy h k
theorem vo{x:o8}{M:Nat}{m:Int}(G:A5 x=true)(hM:1<=M)(h:(M:Rat)*val x=(m:Rat)):Fr x m (M:Int):=by
 refine⟨G,by omega,?_⟩;have hb:=aV G;have h2:((x.2:Int):Rat)≠0:=fL O;unfold val at h;have e:((x.1:Int):Rat)*(M:Rat)=(m:Rat)*(x.2:Rat):=by grind
 have H:(((x.1*(M:Int)):Int):Rat)=((m*x.2:Int):Rat):=by
  rw[N2,N2,<-e];have:(((M:Nat):Int):Rat)=(M:Rat):=by push_cast;rfl
  rw[this]
 exact_mod_cast H
theorem LH:∀n:Fin 5,QS n.val 1<=2048:=by decide
def eD(n k:Nat):o7:=D8 (Fx 1 (n-2)) k++[-1]
def fe(q n:Nat):o4:=(List.range q).map (eD n)++[List.replicate (n-2) 1++[0]]
def gm(q:Nat):o7:=List.replicate q 0++[1]
def dU(p:Int)(V:o7):o3:=(aY V).take (Lp V-2)++[(bu p V,1)]
def jh(p:Int)(V:o7):I':=bH az (fe p.toNat (Lp V)) (gm p.toNat) (dU p V)
theorem Ch{p:Int}(h:2<=Lp V):Lp (dU p V)=Lp V-1:=by unfold dU aY;simp;omega
theorem Ci{p:Int}{j:Nat}(G:j<Lp V-2):(dU p V)[j]?.getD (0,0)=(-(V[1+j]?.getD 0),1):=by
 unfold dU;rw[nP (by unfold aY;simp;omega),Ro,i7 G];unfold aY;rw[sr,QL,In O];rfl
theorem Cj{p:Int}(h:2<=Lp V):(dU p V)[Lp V-2]?.getD (0,0)=(bu p V,1):=by
 unfold dU;have G:((aY V).take (Lp V-2)).length=Lp V-2:=by unfold aY;simp;omega
 rw[J1 O,G,R8];rfl
theorem Ck{p:Int}(h:ak p V=true):bH az (fe p.toNat (Lp V)) (gm p.toNat) (dU p V)=fh (fe p.toNat (Lp V)) (gm p.toNat) (dU p V):=by
 obtain⟨q,Fw,Z,Q,hlen,_,hb⟩:=ap h;have Oi:=bp q Q;have H:2<=Lp V:=by
  rw[hlen];have:∀n:Fin 6,1<=n.val->2<=cN n.val:=by decide
  exact this ⟨q,by omega⟩ Z
 refine kD λ_ j K=>?_;rw[Ch H]at K;by_cases G:j<Lp V-2
 ·have hm:=hb _ (cP (show 1+j<Lp V by omega));refine uf ⟨-(V[1+j]?.getD 0),Ci G,?_⟩;rw[In O,NE];omega
 obtain rfl:j=Lp V-2:=O;have hm:=hb _ (cP (show Lp V-1<Lp V by omega));refine uf ⟨bu p V,Cj H,?_⟩;rw[eW h,In O,NE];omega
theorem WT:∀n:Fin 6,2<=n.val->4<=cN n.val:=by decide
def KC(p:Int)(V:o7):Bool:=(ak p V&&decide (2<=p))&&decide ((jh p V).status=1)
def Oy(p:Int)(V:o7):o3:=((jh p V).Y.take p.toNat).map D2
theorem jp{v:atY}{a b:Bool}(h:a=b):atn (.tuple #[v,ato a])=atn (.tuple #[v,ato b]):=by rw[h]
theorem ZM.UE(w:J)(base n:Nat)(G:n=w.heap.size)(hb:base<=w.heap.size):ZM (w.alloc (SH #[] 80)) base (GT n 0 0) []:=by subst G;exact ZM.made w base hb
def Wg(h:σ:=by
 go_wp2;refine GE Ix rfl ⟨by rw[HN.o];rfl,(XF.store 0 O _).store 1 O _⟩
 ):σ:=h
theorem tC{p:Int}{cap:Nat}(h:d6 w a n cap V)(hx:i8 w b m Gl X)(hg:ak p V=true){s:Nat}(hs:s<n):
 f9 323 #[Id p a n cap,FB b m Gl,.int .i64 (s:Int)] w (Kg ((He V X s).getD (0,0),(He V X s).isSome)):=by
 have⟨W,K⟩:=j7 ((w.alloc (SH #[.int .i64 p,FB a n cap] 31)).alloc (SH #[.int .i64 0,.int .i64 0] 80));have Fp:=I (show W.heap.size=w.heap.size+2 by rw[K];simp);have hX:D4 w W:=by rw[K];exact ZL.trans ZL
 refine y5 (show W.heap[w.heap.size+1]?=some (SH #[.int .i64 0,.int .i64 0] 80 (0,0))by rw[K];exact LE j9) (show W.cell? ⟨w,0,none⟩=some (.int .i64 p)by rw[K];exact D4.o9 ZL j9) (show W.cell? ⟨w,1,none⟩=some (FB a n cap)by rw[K];exact D4.o9 ZL j9) (h.ext hX) (hx.ext hX) hX λE6 Kz K9 HI HR HX=>?_;have HV:=I (bY (p:=p) HI);rw[hg,K]at HV;have HL:=I h.hlen;obtain⟨q,rfl,I6,Lk,SI,_,Om⟩:=ap hg;have hc:=bp q Lk;have IU:n<=32:=l8 HL.o;have y7:=h.y7;have y8:=h.y8;have FA:A8 (s:Int) 0 ((n:Int)-1)=true:=by unfold A8;simp;omega
 clear h hx hX hg SI Om;(try unfold f9);go_in
 go_wp2_with rfl;refine HV.mono ?_;rw[<-K];rintro e w1 ⟨rfl,B0⟩;have X1:=I B0;have b0:=B0.o9 Kz.o;have b1:=B0.o9 K9.o;clear B0 K;go_wp2_with rfl;refine p9.mono ?_;rw[FA];rintro e w2 ⟨rfl,rfl⟩;clear FA;go_wp2_with rfl;refine(vW (HR.ext X1) s O).mono ?_;obtain⟨r1,Z,one,hr⟩:∃r1 Z one,((cw X s).getD (0,0),(cw X s).isSome)=(((r1,Z):o8),one):=⟨_,_,_,rfl⟩;rw[hr];have RN:=I hr;rintro e w3 ⟨rfl,C0⟩;have⟨G,Hr⟩:=j7 (w3.alloc (SH #[.int .i64 r1,.int .i64 Z] 80));have E4:D4 w3 G:=by rw[Hr];exact ZL
 have X4:=I ((X1.trans C0).trans E4);have c0:=(C0.trans E4).o9 b0;have c1:=(C0.trans E4).o9 b1;have d0:G.cell? ⟨w3,0,none⟩=some (.int .i64 r1):=by rw[Hr];simp
 have d1:G.cell? ⟨w3,1,none⟩=some (.int .i64 Z):=by rw[Hr];simp
 obtain⟨vb,vo,rfl,OA⟩:=(HI.ext X4).at hs;have⟨v,hv⟩:=j7 (V[s]?.getD 0);rw[<-hv]at OA;obtain⟨p2,q2,ok,Fw⟩:∃p2 q2 ok,FD (v,1) (r1,Z)=((p2,q2),ok):=⟨_,_,_,rfl⟩;have Gi:=I Fw;have Hb:=I hv;clear hr C0 E4 b0 b1 hv Fw;go_upto_region 4 with rfl;rw[<-Hr];clear Hr;go_upto_region 4 with rfl
 go_cut [10,11] (λsx so wx=>∃g:Nat,sx=ats (some ⟨g,0,none⟩)/\so=ato ok/\e9 (ai G wx g p2 q2))
 case first =>
  have r7:=D4.drew G;have Fu:D4 G (G.alloc (SH #[.int .i64 0,.int .i64 0] 80)).drew:=ZL.trans fl;have r8:=I (λ(w':J) (h:D4 G w')=>(an (h.o9 c1) (an (h.o9 OA) (an (h.o9 d0) (an (h.o9 d1) h)))))
  go_region_held3 (λw'=>w'.cell? ⟨w,1,none⟩=some (FB (some ⟨vb,vo,none⟩) n cap)/\w'.cell? ⟨vb,vo+s,none⟩=some (.int .i64 v)/\w'.cell? ⟨w3,0,none⟩=some (.int .i64 r1)/\w'.cell? ⟨w3,1,none⟩=some (.int .i64 Z)/\D4 G w')
   (exact yg)
   (first
     | ((with_reducible refine(cV _ _).mono ?_)
        rintro e w5 ⟨rfl,B7⟩
        try with_reducible first|have A7:=ai.grow A7 B7|have A7:=ai.Fk B7|have A7:=ai.Fq r7 B7
        try(have Ko:=A7.c0;have Kn:=A7.c1;have L4:=A7.free)
        have r7:D4 G w5:=TH;have G7:=r7.size)
     | ((with_reducible refine(rL _ _ _ _ _).mono ?_)
        rw[Gi.o];rintro e w6 ⟨rfl,JZ⟩
        try with_reducible first|have A7:=ai.grow A7 JZ|have A7:=ai.Fk JZ|have A7:=ai.Fq r7 JZ
        try(have Ko:=A7.c0;have Kn:=A7.c1;have L4:=A7.free)
        have r7:D4 G w6:=ZT;have G7:=r7.size))
  all_goals(exact yx)
 obtain⟨g,rfl,rfl,HB⟩:=hcut;have g0:=HB.c0;have g1:=HB.c1;have XC:=I (X4.trans HB.ext);have hr:=bO ((XC.block _ (l8 Fp.o)).trans E6);obtain⟨FH,FL,JR⟩:=hr;have XF:=I (HX.trans XC);cases one
 ·have HN:=I (show He V X s=none by
   have:=RN.o;simp only[sj]at this;unfold He;cases H:cw X s with
   | none=>rfl
   | some r=>rw[H]at this;simp at this)
  have qq0:=@LC;exact Wg
 have HN:=I (show He V X s=if ok=true then some (p2,q2) else none by
  have:=RN.o;simp only[sj]at this;unfold He;cases H:cw X s with
  | none=>rw[H]at this;simp at this
  | some r =>
    rw[H]at this;simp only[NE]at this;rw[this.1];show PW (V[s]?.getD 0) (r1,Z)=_;unfold PW;rw[<-Hb.o,Gi.o])
 cases ok
 ·have qq0:=@LC;exact Wg
 have qq0:=@LC;exact Wg
def LX(h:σ:=by
 subst r7;go_wp2;go_ret2;exact⟨⟨_,jp (by rw[HA.o];unfold NS;rw[GV.o];rfl),by rw[HA.o];unfold NS;rw[GV.o];exact HO.mono XD⟩,HX.trans XR.o⟩
 ):σ:=h
theorem nQ{p:Int}{cap:Nat}(h:d6 w a n cap V)(hx:i8 w b m Gl X):
 Calls Tryz.prog 264 #[Id p a n cap,FB b m Gl] w λe w'=>(∃v,e=atn (.tuple #[v,ato (Gt p V X).isSome])/\ZM w' w v ((Gt p V X).getD []))/\D4 w w':=by
 have HX:=I (D4.alloc w (SH #[.int .i64 p,FB a n cap] 31));refine Fn (h.ext HX) (hx.ext HX) h.hlen λHI HR HL=>?_;have y7:=h.y7;have y8:=h.y8;have HP:=I (λ(w':J) (G:D4 (w.alloc (SH #[.int .i64 p,FB a n cap] 31)) w')=>nN (p:=p) (HI.ext G) (HR.ext G));have k0:(w.alloc (SH #[.int .i64 p,FB a n cap] 31)).cell? ⟨w,0,none⟩=some (.int .i64 p):=j9;have k1:(w.alloc (SH #[.int .i64 p,FB a n cap] 31)).cell? ⟨w,1,none⟩=some (FB a n cap):=j9;have⟨W,hW⟩:=j7 (w.alloc (SH #[.int .i64 p,FB a n cap] 31));rw[<-hW]at HX HI HR HP k0 k1;have Fp:=I (show W.heap.size=w.heap.size+1 by rw[hW];simp);have k0':=(D4.alloc W (SH #[] 80)).o9 k0;have k1':=(D4.alloc W (SH #[] 80)).o9 k1;clear h hx;go_in
 go_upto_region 2 with rfl;rw[<-hW];clear hW;go_wp2_with rfl;refine i6 (HP _ (D4.alloc W (SH #[] 80))) λw1 B0=>?_;have X1:=I ((D4.alloc W (SH #[] 80)).trans B0);have K:e9 (ZM w1 W (FB (some ⟨w.heap.size+1,0,none⟩) 0 0) []):=Fp.o▸(ZM.made W W (m9 _)).ext B0;clear B0 k0' k1';cases H:Gf p V X
 ·have HN:=I (wR H);clear H;go_wp2;go_ret2;exact⟨⟨_,jp V1,by rw[HN.o];exact K.mono XD⟩,HX.trans X1.o⟩
 have HA:=I (mB H);have HG:=I (dY H);obtain⟨q,Fw,I6,Lk,SI,_,Om⟩:=ap HG.o;have hc:=bp q Lk;have IU:n<=32:=l8 HL.o;have Pc:2<=n:=by
  have:∀q:Fin 6,1<=q.val->2<=cN q.val:=by decide
  have:=this ⟨q,by omega⟩ I6;simp only at this;have:=HL.o;omega
 rw[HL.o]at HA;clear H Fw SI Om;go_wp2
 go_loopg [6,7] (n-2) (λgk oo ii wr=>∃(k s:Nat) (a1:o6) (n1 p1:Nat) (r:o3),e9 (gk+k=n-2)/\e9 (s=1+k)/\oo=FB a1 n1 p1/\ii=.int .i64 (s:Int)/\e9 (Nm (λk=>He V X (1+k)) k=some r)/\e9 (ZM wr W (FB a1 n1 p1) r)/\e9 (D4 W wr))
 ·exact⟨0,1,_,_,_,[],I O,I rfl,rfl,rfl,I rfl,K,X1⟩
 obtain⟨k,s,a1,n1,p1,r,aa,HK,rfl,rfl,GV,HO,XR⟩:=hrel;have c0:=XR.o9 k0;have c1:=XR.o9 k1;have hsz:=XR.size;have J2:1<=s:=l8 HK.o;by_cases hlt:s+1<n
 ·have HE:=I (tC (p:=p) (HI.ext XR) (HR.ext XR) HG.o (s:=s) O);obtain⟨x,y,ok,FI⟩:∃x y ok,((He V X s).getD (0,0),(He V X s).isSome)=(((x,y):o8),ok):=⟨_,_,_,rfl⟩;rw[FI]at HE;have LD:=I FI;clear FI;go_wp2_with rfl;refine i6 HE λw3 C0=>?_;have X4:=I ((XR.trans C0).trans (D4.alloc w3 (SH #[.int .i64 x,.int .i64 y] 80)));have Gh:=I ((HO.ext C0).ext (D4.alloc w3 (SH #[.int .i64 x,.int .i64 y] 80)));have LR:=(XR.trans C0).size;clear C0;cases ok
  ·have HN:=I (show Gt p V X=none by
    rw[HA.o];unfold NS;refine fB GV.o ?_ (show k<n-2 by have:=HK.o;omega);rw[<-HK.o];have:=LD.o;simp only[sj]at this;cases Z:He V X s with
    | none=>rfl
    | some z=>rw[Z]at this;simp at this)
   go_wp2;go_ret2;exact⟨⟨_,jp V1,by rw[HN.o];exact ZM.UE _ _ _ j9 (by have:=X4.size;have:=HX.size;omega)⟩,(HX.trans X4).trans ZL⟩
  have Ky:=I (eg (x:=(x,y)) GV.o (by
   rw[<-HK.o];have:=LD.o;simp only[sj]at this;cases Z:He V X s with
   | none=>rw[Z]at this;simp at this
   | some z=>rw[Z]at this;simp at this;rw[this]))
  have GS:=I (cZ GV);have hk32:k<=32:=l8 HK.o
  go_wp2_with (first
   | (at_builtin;refine Qt x y Gh X4 WI λa2 n2 c2 w5 Jb X5 Fj=>?_))
  go_roundg (gk-1)
  case measure=>have:=aa.o;exact ck
  exact⟨k+1,s+1,a2,n2,c2,_,I (by have:=aa.o;have:=HK.o;omega),I (l8 HK.o),rfl,by go_num,Ky,Fj,X5⟩
 have r7:k=n-2:=by have:=aa.o;have:=HK.o;omega
 exact LX
theorem Xw{p:Int}{cap:Nat}(h:d6 w a n cap V)(hx:i8 w b m Gl X):
 f9 188 #[Id p a n cap,FB b m Gl] w (ato (fK p V X)):=by
 have Z:=I (D4.alloc w (SH #[U p,FB a n cap] 31));have HA:=I (nQ (p:=p) (h.ext Z) (hx.ext Z));unfold f9;go_in
 go_wp2_with rfl;refine PP HA λw1 v ho B0=>?_;have X1:=I (Z.trans B0);have⟨o,G⟩:=j7 (Gt p V X);rw[<-G]at ho;rw[<-G];have⟨l,hl⟩:=j7 (o.getD []);rw[<-hl]at ho;obtain⟨al,K,cl,rfl,HN⟩:=ho.var;have⟨I6,JJ⟩:=ho.rats.ath;have HO:=I ho;have HC:=I (show fK p V X=(o.isSome&&l.all λe=>decide (e.1<=0))by
  unfold fK;rw[<-G,hl]
  cases o<;>rfl)
 clear G hl;go_wp2
 go_loopg [7] K (λgk ii wr=>∃(k:Nat),e9 (gk+k=K)/\ii=U k/\e9 ((l.take k).all (λe=>decide (e.1<=0))=true)/\e9 (D4 w1 wr))
 ·exact FC
 obtain⟨k,HK,rfl,aa,X2⟩:=hrel;by_cases hlt:k<K
 ·obtain⟨xb,xo,x,y,rfl,FI,Fo,FQ⟩:=(HO.rats.ext X2).at hlt;have LD:=I FI;by_cases J4:0<x
  ·have Jb:=I (show fK p V X=false by
    rw[HC.o,cF];refine .inr ?_;rw[We];intro Gs;have:=fp.1 Gs (l[k]' UK) (cP _);have e:=LD.o;rw[In UK,NE]at e;rw[e]at this;simp only[cq]at this;omega)
   go_wp2;go_ret;exact⟨ag Jb.symm,X1.trans X2.o⟩
  have HT:=I (show(l.take (k+1)).all (λe=>decide (e.1<=0))=true by
   rw[dO UK,p7,aa.o,LD.o];simp only[Zc,UF,JD,wq,cq];omega)
  exact S7
 have Lb:=I (show fK p V X=o.isSome by
  have h:=aa.o;rw[aP (by rw[HN.o];omega)]at h
  rw[HC.o,h,JD])
 go_wp2;go_ret;exact⟨ag Lb.symm,X1.trans X2.o⟩
