import Derived.Test.YtooiaklfmodcbaaGreatDoorRtAllG52
set_option linter.all false
set_option maxHeartbeats 6000000
set_option maxRecDepth 100000
namespace Go.Proofs.YtooiaklfmodcbaaGreatDoor
open Ending renaming returned->ar
open List renaming length->JL
open Obj renaming cells->QD
open Value renaming slice->GI,bool->bl,string->aE,pointer->aP
open Go.Proofs.Tryz Go.RowKit
variable{σ:Prop}
section
def Zu(h:σ:=by first|with_reducible exact o7.trans Iy|with_reducible exact D0.trans Iy|with_reducible exact(o7.trans (C7.alloc _ _)).trans Iy):σ:=h
def Y6(h:σ:=by first|with_reducible exact o7.trans Gv|with_reducible exact D0.trans Gv|with_reducible exact(o7.trans (C7.alloc _ _)).trans Gv):σ:=h
def TP(h:σ:=by rw[DW.o];exact Ea.hg):σ:=h
def H'(h:σ:=by simp[results,qq0,go_sem,z0,z1,z2]):σ:=h
def rj(h:σ:=by rw[<-Fv.o];exact hs):σ:=h
def db(h:σ:=by rw[DW.o];exact Fb.hg):σ:=h
def Y2{P Q:Prop}(q:Q)(h:Q->P:=by intro q;go_roundg (g2-1);exact q;have:=PU.o;omega):P:=h q
variable{V:o3}{w:J}{a:l9}{n:Nat}
def bu(p:Int)(V:o3):Int:=if ak p V=true then V[JL V-1]?.getD 0 else 0
theorem ug{p:Int}(h:ak p V=false):bu p V=0:=by unfold bu;rw[h];rfl
theorem eT{p:Int}(h:ak p V=true):bu p V=V[JL V-1]?.getD 0:=by unfold bu;rw[f9 h]
def EA(h:σ:=by
 have hi:=h.alloc (QD #[U p,GI a n cap] 31);have A8:=I (C7.alloc w (QD #[U p,GI a n cap] 31));have HL:=I h.hlen;have HI:=I hi;have HF:=I (qq0 (p:=p) hi);clear h hi;cases hv:ak p V
 ·rw[hv]at HF;have HN:=I (ug hv);clear hv;(try unfold f8);go_in
  go_wp2_with fail;refine HF.mono ?_;rintro e w1 ⟨rfl,hx⟩;have X1:=I (A8.trans hx);clear hx;go_wp2;go_ret;exact⟨au HN.symm,X1⟩
 ·rw[hv]at HF;obtain⟨q,rfl,h1,h5,hlen,_,I5⟩:=ap hv;have hN:=bp q h5;obtain⟨u,rfl⟩:∃u,n=u+1:=⟨n-1,by have:=HL.o;omega⟩;have HN:=I (show bu (q:Int) V=V[u]?.getD 0 by rw[eT hv,HL.o];rfl);have V9:u<=31:=by have:=HL.o;omega
  clear hv hlen I5 hN;(try unfold f8);go_in
  go_wp2_with fail;refine HF.mono ?_;rintro e w1 ⟨rfl,hx⟩;have c1:w1.cell? (O w.heap.size 1)=some (GI a (u+1) cap):=hx.o6 j7;obtain⟨b,off,rfl,hc⟩:=(HI.ext hx).at (show u<u+1 by omega);have Kv:((u+1:Nat):Int)-1=(u:Int):=by omega
  have X1:=I (A8.trans hx);clear hx;go_wp2;go_ret;exact⟨au HN.symm,X1⟩
 ):σ:=h
theorem iK{p:Int}{cap:Nat}(h:d9 w a n cap V):
 f8 98 #[FS p a n cap] w (U (bu p V)):=by
 have qq0:=@bY;exact EA
theorem iE{p:Int}{cap:Nat}(h:d9 w a n cap V):
 f8 132 #[FS p a n cap] w (U (bu p V)):=by
 have qq0:=@bV;exact EA
def OI(s:Nat):Nat:=(List.range 5).countP λk=>M2 (s:Int) k
theorem zN(s:Nat):OI s<=5:=by unfold OI;exact fy B' j7
theorem vj(s:Nat)(hs:s<32)(w:J):Calls prog 267 #[.int .u64 (s:Int)] w λe w'=>e=ar (U (OI s))/\w=w':=by
 go_in
 go_wp2;go_ret;refine⟨au ?_,rfl⟩;clear w
 revert s
 decide +kernel
theorem yR(s:Nat)(hs:s<32)(w:J):Calls prog 193 #[.int .u64 (s:Int)] w λe w'=>e=ar (U (OI s))/\w=w':=by
 go_in
 go_wp2_with (go_at_call 267;refine cP (vj s hs _) ?_);go_ret;exact⟨rfl,rfl⟩
theorem Bg:∀s:Fin 32,∀k:Fin 5,M2 ((s.val:Nat):Int) k.val=false->bits .or .i64 ((s.val:Nat):Int) (2^k.val)=((s.val:Nat):Int)+2^k.val:=by decide +kernel
theorem ny{s k:Nat}(hs:s<32)(E:k<5)(h:M2 (s:Int) k=false):bits .or .i64 (s:Int) (2^k)=(s:Int)+2^k:=Bg ⟨s,hs⟩ ⟨k,E⟩ h
theorem DH:∀n:Fin 6,∀s:Fin 32,∀k:Fin 5,s.val<cN n.val->k.val<n.val->M2 ((s.val:Nat):Int) k.val=false->s.val+2^k.val<cN n.val:=by decide +kernel
theorem Ux{s k:Nat}(E:n<=5)(hs:s<cN n)(G:k<n)(h:M2 (s:Int) k=false):s+2^k<cN n :=
 DH ⟨n,by omega⟩ ⟨s,by have:=bp n E;omega⟩ ⟨k,by omega⟩ hs G h
theorem BR(s:Int)(k:Nat)(h:0<=s)(h':s<=9223372036854775807):(bits BinOp.and IntKind.i64 (s/2^k) 1 == 0)=!M2 s k:=by
 exact Kt
theorem AW(k:Nat)(h:k<=5):IntKind.i64.wrap ((2:Int)^k)=2^k:=by
 have:=fg k;have:=gj k h;rw[mn];omega
def Jk(wt:Nat->Int)(V:o3)(k:Nat):Nat->Int
 | 0=>0
 | m+1=>Jk wt V k m+(if M2 (m:Int) k=true then 0 else wt (OI m)*(V[m+2^k]?.getD 0-V[m]?.getD 0))
def XV(wt:Nat->Int)(V:o3)(d:Int)(k:Nat):o4:=(aN (Jk wt V k (JL V)) d).1
def L9(wt:Nat->Int)(V:o3)(d:Int)(m:Nat):l7:=(List.range m).map (XV wt V d)
theorem nt(wt:Nat->Int)(V:o3)(d:Int):L9 wt V d 0=[]:=rfl
theorem nq(wt:Nat->Int)(V:o3)(d:Int)(m:Nat):L9 wt V d (m+1)=L9 wt V d m++[XV wt V d m]:=by simp[L9,rN]
theorem km(wt:Nat->Int)(V:o3)(d:Int)(m:Nat):JL (L9 wt V d m)=m:=by simp[L9]
theorem dp(E:∀x∈V,-500<=x/\x<=500)(k:Nat):-500<=V[k]?.getD 0/\V[k]?.getD 0<=500:=by
 by_cases h:k<JL V
 ·have:=E _ (eN h);simpa[h]using this
 simp[q8 (by omega:V.length<=k)]
theorem sI{x y:Int}(h1:-1000<=x)(h2:x<=1000)(h3:-1000<=y)(h4:y<=1000):-1000000<=x*y/\x*y<=1000000:=by
 have h:(x*y).natAbs<=1000*1000:=by rw[WR];exact EE j0 j0
 omega
theorem oH{wt:Nat->Int}{V:o3}(E:∀x∈V,-500<=x/\x<=500)(hw:∀i,-1000<=wt i/\wt i<=1000)(k:Nat):∀m:Nat,-(1000000*m:Int)<=Jk wt V k m/\Jk wt V k m<=1000000*m
 | 0=>by simp[Jk]
 | m+1=>by
   have ih:=oH E hw k m;unfold Jk;have h1:=dp E (m+2^k);have h2:=dp E m;have G:=hw (OI m);have h4:=sI G.1 G.2 (y:=V[m+2^k]?.getD 0-V[m]?.getD 0) j0 j0
   split<;>omega
def xo(h:σ:=by
 exact⟨j+1,by omega,by go_num,by unfold Jk;rw[HB.o,<-HT.o];simp,C0⟩
 ):σ:=h
theorem rB{m cap:Nat}{H:FuncId}{ca:Array arQ}{wt:Nat->Int}{d:Int}(h:d9 w a m cap V)(h1:1<=n)(h5:n<=5)(hm:m=cN n)(hV:∀x∈V,-500<=x/\x<=500)(hw:∀i,-1000<=wt i/\wt i<=1000)
 (hg:NE prog H) (hf:ix prog w H ca 6 wt) :
 Calls prog 122 #[FS n a m cap,.func (.func H) #[] ca,U d] w λe w'=>(∃v,e=ar v/\WV w' w v (L9 wt V d n))/\C7 w w':=by
 have hN:=bp n h5;have Tr:∀(args:Array arQ) (w:J),(callFunc H args).run prog w=.ok (.enter H args) w:=hg;have hi:=h.alloc (QD #[U n,GI a m cap] 31);refine t8 (C7.alloc w (QD #[U n,GI a m cap] 31)) h.hlen hi λHX HL HI=>?_;have HF:=I (hf.ext HX);have HO:=I (WV.made (w.alloc (QD #[U n,GI a m cap] 31)) (w+1) j7);have⟨r8,r9⟩:=h.aq9;refine t8 hV hw hm λHV HW KW=>?_;have Wy:m<=32:=j0;clear h hi hf hg hV hw hm hN;go_in
 go_wp2
 go_loopw [7,17] (λo i wr=>∃(k:Nat) (a1:l9) (n1 p1:Nat),k<=n/\i=U k/\o=GI a1 n1 p1/\b9 (WV wr (w+1) (GI a1 n1 p1) (L9 wt V d k))/\b9 (C7 (w.alloc (QD #[U n,GI a m cap] 31)) wr)) (λ_ i _=>n-(intOf i).toNat)
 ·exact⟨0,_,_,_,gi _,rfl,rfl,I (by rw[nt];simpa using HO.o),I WU⟩
 obtain⟨k,a1,n1,p1,hk,rfl,rfl,HO1,Z⟩:=hrel;have c0:wr.cell? (O w 0)=some (U n):=Z.o6 j7;have c1:wr.cell? (O w 1)=some (GI a m cap):=Z.o6 j7;by_cases hlt:k<n
 ·have MA:=I (HI.ext Z);have HF1:=I (HF.ext Z);have hp:=fg k;have Tm:=gj k j0;go_wp2
  go_loopw [9,23] (λt i wr2=>∃(j:Nat),j<=m/\i=U j/\t=U (Jk wt V k j)/\b9 (C7 wr wr2)) (λ_ i _=>m-(intOf i).toNat)
  ·exact⟨0,gi _,rfl,rfl,I WF⟩
  obtain⟨j,hj,rfl,ht,C0⟩:=hrel;have⟨T,HT⟩:=GT (Jk wt V k j);have hTb:=oH HV.o HW.o k j;rw[<-HT.o]at ht hTb;subst ht;have c1':=C0.o6 c1;by_cases Ez:j<m
  ·have Yy:=I (MA.ext C0);have⟨b,off,he,hc⟩:=Yy.at Ez;have JD:=dp HV.o j;have⟨v1,HY1⟩:=GT (V[j]?.getD 0);rw[<-HY1.o]at hc JD;subst he;have hb:=BR (j:Int) k j0 j0;cases G:M2 (j:Int) k
   ·rw[G]at hb;have HB:=I G;have hu:=Ux h5 (by rw[<-KW.o];exact Ez) hlt G;have RN:=ny (s:=j) (k:=k) j0 j0 G;obtain⟨u,Of⟩:∃u:Nat,u=j+2^k:=⟨_,rfl⟩;have hui:(j:Int)+2^k=(u:Int):=by rw[Of];simp
    have hum:u<m:=by rw[KW.o,Of];exact hu
    rw[hui]at RN;have⟨b2,off2,SG,GU⟩:=Yy.at hum;obtain⟨rfl,rfl⟩:=aM SG;clear SG;have MK:=dp HV.o u;have⟨v2,HY2⟩:=GT (V[u]?.getD 0);rw[<-HY2.o]at GU MK;have HU:=I Of;clear G hu hui Of;have QZ:=HW.o (OI j);have⟨W,K⟩:=GT (wt (OI j));rw[<-K.o]at QZ;have hmul:=sI QZ.1 QZ.2 (y:=v2-v1) j0 j0;have⟨X,hX⟩:=e9 (W*(v2-v1));rw[<-hX]at hmul;have Ir:=I hX;have e1:=dk (v2-v1);have e2:IntKind.i64.wrap (W*(v2-v1))=X:=by rw[<-hX,mn];omega
    have e3:=dk (T+X);have e4:=AW k j0;have HU64:=I (show IntKind.u64.wrap (j:Int)=(j:Int)by simp only[IntKind.wrap,IntKind.bits,IntKind.signed];simp;omega);have o7:=C7.drew wr;have abU:u<=32:=j0;clear hX hmul QZ JD MK hTb hp Tm;go_wp2
    go_region_held3 (λw'=>w'.cell? (O w 1)=some (GI (some (O b off)) m cap)/\w'.cell? (O b (off+u))=some (U v2)/\C7 wr w')
     (exact⟨o7.o6 c1',o7.o6 GU,o7⟩)
     (first
       | (go_at_call 193;rw[HU64.o];refine cP (yR j j0 _) ?_)
       | (refine IR (HF1 (OI j) _ (k8 (zN j)) (C0.trans o7)) λw5 Ey=>?_;rw[<-K.o];have o7:=o7.trans Ey))
    go_wp2
    go_roundw
    case rel=>exact⟨j+1,by omega,by go_num,by unfold Jk;rw[HB.o,<-HT.o,<-K.o,<-HU.o,<-HY2.o,<-HY1.o,<-Ir.o];simp[go_sem,e3],I (C0.trans o7)⟩
    exact sw
   rw[G]at hb;have HB:=I G;clear G;go_wp2
   go_roundw
   case rel=>exact xo
   exact sw
  have Ln:j=m:=j0;subst Ln;obtain⟨p,q,ok,D4⟩:∃p q ok,aN T d=((p,q),ok):=⟨_,_,_,rfl⟩;refine t8 D4 (Z.trans C0) (HO1.ext C0) λEJ Ud Ec=>?_;have Iz:w.heap.size+1<=wr.heap.size:=by have:=Ud.size;simpa using this
  clear D4;go_wp2_with fail;refine i7 (lL _ _ _) λw3 B5=>?_;rw[EJ.o];have X3:=I (Ud.trans B5);have B9:=I (Ec.ext B5);have KI:=B5.size
  go_wp2_with (first
   | (at_builtin;refine cG rfl _ _ rfl (w+1) (GI a1 n1 p1) _ rfl ((B9.ext WU).ext WU) _ 1 _ [(p,q)] rfl (C2 j7) (by rw[km];omega) m9 ?_;intro v2 w4 ho hg r7;obtain⟨a2,n2,c2,rfl,Hb⟩:=ho.var;have EI:=I ho;have HG4:=I hg;clear ho hg r7))
  go_roundw
  case rel =>
   refine⟨k+1,a2,n2,c2,by omega,by go_num,rfl,I ?_,I ?_⟩
   ·rw[nq,XV,HL.o,<-HT.o,EJ.o];exact EI
   exact aj (X3.trans (WU.trans WU)) HG4.o (λj hj=>by have:=(B9.lt j hj).1;simpa using this)
  exact sw
 go_wp2;go_ret;have DV:k=n:=j0;subst DV;exact⟨⟨_,rfl,HO1.mono j0⟩,HX.trans Z.o⟩
end
section
variable{w:J}
def fd(ok:Bool)(g:Int)(r:G9):Int:=if ok=false then 0 else if r.status≠1 then 3 else if 0<DM (C5 r.value) (g,1) then 2 else if((eL g r).2&&(jM g r).2)=true then 1 else 3
def fD(ok:Bool)(g:Int)(r:G9):Int:=if ok=false then 0 else if r.status≠1 then 3 else if(eL g r).2=false then 3 else if(eL g r).1.1<0 then 2 else if(jM g r).2=true then 1 else 3
def Nn(w:J)(base:Nat)(e:Ending)(code:Int)(pt:l7):Prop :=
 ∃pa pn pc wa wn wc,e=ar (.agg #[U code,GI pa pn pc,GI wa wn wc])/\(code=1->WV w base (GI pa pn pc) pt)
theorem fL{g:Nat}{a b c:arQ}{t:TypeId}(hb:w.heap[g]?=some (QD #[a,b,c] t (0,0))):
 w.cell? (O g 0)=some a/\w.cell? (O g 1)=some b/\w.cell? (O g 2)=some c/\∀k,w.frozen? (O g k)=false:=by
 refine⟨?_,?_,?_,λk=>mo w g k _ _ hb⟩<;>rw[aR w g _ _ _ _ hb]<;>rfl
theorem zm{W:J}{r:Nat}{x0 H G:arQ}{t:TypeId}(hb:W.heap[r]?=some (QD #[x0,H,G] t (0,0)))(K:C7 w W)(hr:w.heap.size<=r)(v0 v1 v2:arQ):
 C7 w (((W.setCell (O r 0) v0).setCell (O r 1) v1).setCell (O r 2) v2)/\(((W.setCell (O r 0) v0).setCell (O r 1) v1).setCell (O r 2) v2).cell? (O r 0)=some v0/\(((W.setCell (O r 0) v0).setCell (O r 1) v1).setCell (O r 2) v2).cell? (O r 1)=some v1/\(((W.setCell (O r 0) v0).setCell (O r 1) v1).setCell (O r 2) v2).cell? (O r 2)=some v2 /\
  ∀b,b≠r->(((W.setCell (O r 0) v0).setCell (O r 1) v1).setCell (O r 2) v2).heap[b]?=W.heap[b]?:=by
 have h:=cE W r 0 _ t v0 hb;have Z:=cE _ r 1 _ t v1 h;have Q:=cE _ r 2 _ t v2 Z;obtain⟨c0,c1,c2,_⟩:=fL (a:=v0) (b:=v1) (c:=v2) Q;exact⟨((K.setCell (p:=(O r 0)) hr _).setCell (p:=(O r 1)) hr _).setCell (p:=(O r 2)) hr _,c0,c1,c2,λb E=>(GE _ _ _ _ E).trans ((GE _ _ _ _ E).trans (GE _ _ _ _ E))⟩
theorem ks{V:o3}(hb:∀x∈V,-500<=x/\x<=500)(k:Nat):-500<=V[k]?.getD 0/\V[k]?.getD 0<=500:=by
 by_cases h:k<JL V
 ·rw[Id h];exact hb _ (eN h)
 rw[q8 j0];simp
def Ul(h:σ:=by
 have HZ:=I z;have Ou:=I zo;clear z zo;go_wp2;refine Fn (v:=.agg #[U 3,d6,d6]) H' rfl ⟨⟨_,_,_,_,_,_,by rw[HC.o],λh=>by rw[HC.o]at h;cases h⟩,HZ⟩
 ):σ:=h
def XS(h:σ:=by
 clear hgo;go_in
 go_wp2_with fail;rw[<-hW];refine J1.mono ?_;rintro e w1 ⟨⟨la,KB,KF,lb,KA,KE,lc,Kz,KD,rfl,_⟩,hx⟩;unfold Ig;have⟨w2,hw2⟩:=e9 (w1.alloc (bT la KB KF lb KA KE lc Kz KD));have X2:C7 W w2:=by rw[hw2];exact hx.trans WU
 have⟨q0,q1,q2,qf⟩:=KV.o w2 X2;obtain⟨z,z0,z1,z2,_⟩:=Fi.o w2 X2 0 d6 (d6);have HZ:=I z;go_upto_region 2 with fail;rw[<-hw2];clear hx hw2 hW z;go_wp2;refine Fn (v:=.agg #[U 0,d6,d6]) H' rfl ⟨⟨_,_,_,_,_,_,by rw[HC.o],λh=>by rw[HC.o]at h;cases h⟩,HZ⟩
 ):σ:=h
def PF(h:σ:=by
 have HZ:=I z;have Ou:=I zo;clear z zo;go_wp2;refine Fn (v:=.agg #[U 2,d6,GI xa xn xc]) H' rfl ⟨⟨_,_,_,_,_,_,by rw[HC.o],λh=>by rw[HC.o]at h;cases h⟩,HZ⟩
 ):σ:=h
theorem AN{p:Int}{a:l9}{n cap:Nat}{V:o3}(h:d9 w a n cap V):
 Calls Tryz.prog 62 #[FS p a n cap] w λe w'=>Nn w' w e (fd (ak p V) (bu p V) (bG az (dM p.toNat n) (dY p.toNat) (aW V))) (aS (bu p V) (bG az (dM p.toNat n) (dY p.toNat) (aW V)))/\C7 w w':=by
 have⟨W,hW⟩:=e9 ((w.alloc (QD #[U p,GI a n cap] 31)).alloc (QD #[U 0,d6,d6] 71));have Ml:W.heap.size=w.heap.size+2:=by rw[hW];simp
 have hX:C7 w W:=by rw[hW];exact WU.trans WU
 refine ns (show W.heap[w.heap.size+1]?=some (QD #[U 0,d6,d6] 71 (0,0))by rw[hW];exact IO j7) (show W.cell? (O w 0)=some (U p)by rw[hW];exact C7.o6 WU j7) (show W.cell? (O w 1)=some (GI a n cap)by rw[hW];exact C7.o6 WU j7) (h.ext hX) hX λDO I9 Jt HI HX=>?_;have J1:=I (wk (p:=p) HI);have⟨g,Ms⟩:=e9 (bu p V);have⟨r,Eb⟩:=e9 (bG az (dM p.toNat n) (dY p.toNat) (aW V));have HG:=I Ms;have Fv:=I Eb;rw[<-Ms,<-Eb];have Fi:=I (λ(w':J) (hx:C7 W w') (code:Int) (x1 x2:arQ)=>zm (w:=w) ((hx.block _ j0).trans DO) (HX.trans hx) (b7 _) (U code) x1 x2);have KV:=I (λ(w':J) (hx:C7 W w')=>fL ((hx.block _ j0).trans DO));clear h hX Ms Eb;cases hgo:ak p V
 ·rw[hgo]at J1;have HC:b9 (fd false g r=0):=I (rfl);have qq0:=@OX;exact XS
 rw[hgo]at J1;obtain⟨q,D4,Hh,JF,QE,_,Mx⟩:=ap hgo;have H9:-500<=g/\g<=500:=by rw[HG.o,eT hgo];exact ks Mx _
 have EJ:=I D4;clear hgo QE Mx D4;go_in
 go_wp2_with fail;rw[<-hW];refine J1.mono ?_;rintro e w1 ⟨⟨la,KB,KF,lb,KA,KE,lc,Kz,KD,rfl,Om⟩,hx⟩;unfold Ig;have⟨w2,hw2⟩:=e9 (w1.alloc (bT la KB KF lb KA KE lc Kz KD));have C4:C7 w1 w2:=by rw[hw2];exact WU
 have X2:=I (hx.trans C4);have Ff:=I (kY ((Om rfl).ext C4));rw[<-Fv.o]at Ff;have t0:=aw (show w2.heap[w1.heap.size]?=some (QD #[GI la KB KF,GI lb KA KE,GI lc Kz KD] 105 (0,0))by rw[hw2];exact IO rfl);have t1:=aI (show w2.heap[w1.heap.size]?=some (QD #[GI la KB KF,GI lb KA KE,GI lc Kz KD] 105 (0,0))by rw[hw2];exact IO rfl);have t2:=aJ (show w2.heap[w1.heap.size]?=some (QD #[GI la KB KF,GI lb KA KE,GI lc Kz KD] 105 (0,0))by rw[hw2];exact IO rfl);go_upto_region 2 with fail;rw[<-hw2];clear hx C4 Om hw2 hW;go_wp2_with fail;refine Ff.mono ?_
 have F4:=I (λ(hs:r.status=1)=>show JL r.Y=q/\z7 r.value=true/\∀k,k<JL r.Y->z7 (r.Y[k]?.getD (0,0))=true by
  have:=fu (bound:=az) (A:=dM p.toNat n) (B:=dY p.toNat) (C:=aW V) rj;rw[<-Fv.o]at this;refine⟨?_,this.2.2.2.2⟩;rw[this.2.2.2.1];unfold dY;rw[G6,EJ.o,gg])
 rintro e w3 ⟨⟨xa,xn,xc,ya,yn,yc,ra,rn,rc,rfl,Ka⟩,B5⟩;have⟨w4,FY⟩:=e9 (w3.alloc (cZ r xa xn xc ya yn yc ra rn rc));have DN:C7 w3 w4:=by rw[FY];exact WU
 refine t8 ((X2.trans B5).trans DN) (Ka.here.ext DN) (show w4.heap[w3.heap.size]?=some (cZ r xa xn xc ya yn yc ra rn rc)by rw[FY];exact IO rfl) λX4 Ft Ek=>?_;obtain⟨rs,rX,rY,rr,⟨K,D6⟩,rp⟩:=r;unfold H8;go_upto_region 5 with fail;rw[<-FY];clear Ka B5 DN FY t0 t1 t2;generalize w3.heap.size=b5 at Ek⊢;have hb5l:=In Ek.o;have⟨l0,l1,l2,l3,l4,l5,l6,lf⟩:=Ef Ek.o
 try simp only at l0 l1 l2 l3 l4 l5 l6
 by_cases hs:rs=1
 ·have⟨MH,LQ,JB⟩:=F4.o hs
  try simp only at MH LQ JB
  subst hs;have FG:=aU LQ
  try simp only at FG
  have JT:=I (λ(w':J) (hx:C7 W w')=>iE (p:=p) (HI.ext hx));simp only[<-HG.o]at JT;have b0:=X4.o6 I9.o;have b1:=X4.o6 Jt.o;have Ye:=I JB;have MZ:=I MH;clear LQ JB MH;go_wp2_with fail;refine i7 (JT _ X4) λw5 Ey=>?_;go_wp2_with fail;refine i7 (cO g _) λw6 Hg=>?_;have⟨w7,Gh⟩:=e9 (w6.alloc (QD #[U g,U 1] 56));have Hm:C7 w4 w7:=by rw[Gh];exact(Ey.trans Hg).trans WU
  have X7:=I (X4.trans Hm);have EC:=I (Hm.blk Ek);have e0:w7.cell? (O w6 0)=some (U g):=by rw[Gh];simp
  have e1:w7.cell? (O w6 1)=some (U 1):=by rw[Gh];simp
  have HY7:=I (Ft.y.ext Hm);have⟨m0,m1,m2,m3,m4,m5,m6,mf⟩:=Ef EC.o
  try simp only at m0 m1 m2 m3 m4 m5 m6
  go_upto_region 8 with fail;rw[<-Gh];clear Hm Gh l0 l1 l2 l3 l4 l5 l6 lf b0 b1;generalize w6.heap.size=b6 at e0 e1⊢;have⟨Z,HZC⟩:=GT (DM (-K,D6) (g,1));go_wp2_with fail;have o7:=C7.drew w7;have D0:=o7;have o8:=I (λ(w':J) (h:C7 w7 w')=>(an (h.o6 m4) (an (h.o6 m5) (an (h.o6 e0) (an (h.o6 e1) h)))));go_wp2_with fail
  go_region_held3 (λw'=>w'.cell? (O b5 4)=some (U K)/\w'.cell? (O b5 5)=some (U D6)/\w'.cell? (O b6 0)=some (U g)/\w'.cell? (O b6 1)=some (U 1)/\C7 w7 w')
   (with_reducible exact o8.o _ o7)
   (first
     | ((with_reducible refine(eX K D6 _ j0 j0).mono ?_)
        rintro e w8 ⟨rfl,FQ⟩;have o7:C7 w7 w8:=o7.trans FQ;have hs_w8:=o7.size)
     | ((with_reducible refine(gH (-K) D6 g 1 _).mono ?_)
        rw[<-HZC.o];rintro e w9 ⟨rfl,Qr⟩;have o7:C7 w7 w9:=o7.trans Qr;have hs_w9:=o7.size))
  clear D0;have X9:=X7.trans o7;have Mg:=I (o7.blk EC);have⟨k0,k1,k2,k3,k4,k5,k6,kf⟩:=Ef Mg.o
  try simp only at k0 k1 k2 k3 k4 k5 k6
  have f0:=o7.o6 e0;have f1:=o7.o6 e1;have HY9:=I (HY7.ext o7);have abd:=I X9;clear m0 m1 m2 m3 m4 m5 m6 mf e0 e1 o7;by_cases hz:0<Z
  ·have HC:=I (show fd true g ⟨1,rX,rY,rr,(K,D6),rp⟩=2 by
    unfold fd;rw[f7 j7,f7 j7,f9 (by show 0<DM (-K,D6) (g,1);rw[<-HZC.o];exact hz)])
   have⟨q0,q1,q2,qf⟩:=KV.o w9 X9;have⟨z,z0,z1,z2,zo⟩:=Fi.o w9 X9 2 d6 (GI xa xn xc);have qq0:=@OX;exact PF
  have aha:yn<=100000:=by have h1:=HY9.hlen;have h2:=MZ.o;(try simp only at h1);omega
  have S0:=I (mp HY9.o aha (λk=>by
   by_cases hk:k<JL rY
   ·have:=aU (Ye k hk);omega
   rw[q8 j0];simp))
  clear X9;go_wp2_with fail;refine PP S0 λNx v ho MI=>?_;obtain⟨a10,H,p10,rfl,abn⟩:=ho.var;have H5:=I ho;have HB10:=I (MI.blk Mg);have⟨m0,m1,m2,m3,m4,m5,m6,mf⟩:=Ef HB10.o
  try simp only at m0 m1 m2 m3 m4 m5 m6
  have e0:=MI.o6 f0;have e1:=MI.o6 f1;have X10:=I (abd.trans MI);obtain⟨s1,s2,one,Pe⟩:∃s1 s2 o,Ev (g,1) (K,D6)=((s1,s2),o):=⟨_,_,_,rfl⟩;have F5:=I Pe;clear ho k0 k1 k2 k3 k4 k5 k6 kf f0 f1 Pe;go_wp2_with fail;refine i7 (kv g 1 K D6 _) λPc OK=>?_;rw[F5.o];have⟨Mh,V6⟩:=e9 (Pc.alloc (QD #[U s1,U s2] 56));have Ht:C7 Nx Mh:=by rw[V6];exact OK.trans WU
  have Ud:=I (X10.trans Ht);have d0:Mh.cell? (O Pc 0)=some (U s1):=by rw[V6];simp
  have d1:Mh.cell? (O Pc 1)=some (U s2):=by rw[V6];simp
  have N8:=I (H5.ext Ht);have LC:JL (rY.map C5)=q:=by rw[dc];exact MZ
  have SZ:=I (show H=q by rw[<-abn.o];exact LC);obtain⟨u,hu⟩:∃u:Nat,u+1=H:=⟨H-1,by have:=SZ.o;omega⟩;have Kr:(H:Int)-1=(u:Int):=j0;have LB:u<H:=j0;have YK:IntKind.i64.wrap ((H:Int)-1)=(u:Int):=by rw[Kr,mn];have:=N8.rats.r8;have:=N8.rats.r9;omega
  have KZ:=ST u;have hul:=Rd u H;obtain⟨xb,xo,x1,x2,rfl,Tf,RD,Sx⟩:=N8.rats.at LB;obtain⟨l1,l2,two,hls⟩:∃l1 l2 o,Ev (x1,x2) (s1,s2)=((l1,l2),o):=⟨_,_,_,rfl⟩;have Ze:=I hls;have Hc:=I (show jM g ⟨1,rX,rY,rr,(K,D6),rp⟩=((l1,l2),two)by
   unfold jM eL Pz;simp only;rw[LC,<-SZ.o,show H-1=u by omega,Tf,F5.o,hls])
  have OY:=I (show aS g ⟨1,rX,rY,rr,(K,D6),rp⟩=(rY.map C5).set u (l1,l2)by
   unfold aS Pz;simp only;rw[Hc.o,LC,<-SZ.o,show H-1=u by omega])
  have HUL:=I (show u<JL (rY.map C5) by rw[LC,<-SZ.o];exact LB);have Lx:b9 (eL g ⟨1,rX,rY,rr,(K,D6),rp⟩=((s1,s2),one)):=F5;have O9:=I (show fd true g ⟨1,rX,rY,rr,(K,D6),rp⟩=if(one&&two)=true then 1 else 3 by
   unfold fd;rw[f7 j7,f7 j7,f7 (by show¬0<DM (-K,D6) (g,1);rw[<-HZC.o];omega),Lx.o,Hc.o])
  have⟨hc10,hm10⟩:=N8.rats.aq9;go_upto_region 12 with fail;rw[<-V6];clear V6 Ht hls Tf hu Kr LC m0 m1 m2 m3 m4 m5 m6 mf e0 e1;generalize Pc.heap.size=b8 at d0 d1⊢;go_upto_region 12 with fail
  go_cut [10,11] (λsx so wx=>∃gb:Nat,sx=aP (some (O gb 0))/\so=bl two/\b9 (ah Mh wx gb l1 l2))
  case first =>
   have o7:=C7.drew Mh;have D0:C7 Mh (Mh.alloc (QD #[U 0,U 0] 56)).drew:=WU.trans cn;have o8:=I (λ(w':J) (h:C7 Mh w')=>(an (h.o6 RD) (an (h.o6 Sx) (an (h.o6 d0) (an (h.o6 d1) h)))))
   go_region_held3 (λw'=>w'.cell? (O xb (xo+u*2))=some (U x1)/\w'.cell? (O xb (xo+u*2+1))=some (U x2)/\w'.cell? (O b8 0)=some (U s1)/\w'.cell? (O b8 1)=some (U s2)/\C7 Mh w')
    (exact Hz)
    (first
      | ((with_reducible refine(kv _ _ _ _ _).mono ?_)
         rw[Ze.o];rintro e w14 ⟨rfl,Gv⟩
         first|(with_reducible have A1:=ah.grow A1 Gv)|(with_reducible have A1:=ah.DS Gv)|(with_reducible have A1:=ah.DX o7 Gv)|skip
         first|(have IX:=A1.c0;have IW:=A1.c1;have Kf:=A1.free)|skip
         have o7:C7 Mh w14:=Y6;have FB:=o7.size))
   all_goals(exact Jm)
  obtain⟨gb,rfl,rfl,HB⟩:=hcut;have XC:=Ud.trans HB.ext;have g0:=HB.c0;have g1:=HB.c1;have Ly:=I (N8.ext HB.ext);have JZ:=I XC;clear RD Sx d0 d1;cases one
  ·have HC:=I (show fd true g ⟨1,rX,rY,rr,(K,D6),rp⟩=3 by rw[O9.o];rfl);have⟨q0,q1,q2,qf⟩:=KV.o wc XC;have⟨z,z0,z1,z2,zo⟩:=Fi.o wc XC 3 d6 (d6);have qq0:=@OX;exact Ul
  cases two
  ·have HC:=I (show fd true g ⟨1,rX,rY,rr,(K,D6),rp⟩=3 by rw[O9.o];rfl);have⟨q0,q1,q2,qf⟩:=KV.o wc XC;have⟨z,z0,z1,z2,zo⟩:=Fi.o wc XC 3 d6 (d6);have qq0:=@OX;exact Ul
  have HC:=I (show fd true g ⟨1,rX,rY,rr,(K,D6),rp⟩=1 by rw[O9.o];rfl);have⟨gp,hgp,H9,WE,JK⟩:=Ly.block LB;obtain⟨rfl,rfl⟩:=aM hgp;clear hgp;obtain⟨y0,y1,y2,y3,YH,_,hyc,hyd⟩:=Ly.rats.at LB;obtain⟨rfl,rfl⟩:=aM YH;clear YH;rw[hI]at hyc hyd;have LI:=I (Ly.set HUL.o l1 l2);have hwg:W.heap.size<=xb:=k8 abd.size;have XP:C7 W ((wc.setCell (O xb (u*2)) (U l1)).setCell (O xb (u*2+1)) (U l2)):=(XC.setCell (p:=(O xb (u*2))) hwg _).setCell (p:=(O xb (u*2+1))) hwg _;have⟨wp,hwp⟩:=e9 ((wc.setCell (O xb (u*2)) (U l1)).setCell (O xb (u*2+1)) (U l2));rw[<-hwp]at LI XP;rw[<-OY.o]at LI;go_upto_region 16 with fail;rw[<-hwp];clear hwp hyc hyd WE g0 g1 XC;have⟨q0,q1,q2,qf⟩:=KV.o wp XP;have⟨z,z0,z1,z2,zo⟩:=Fi.o wp XP 1 (EQ xb H p10) d6;have HZ:=I z;have Ou:=I zo;clear z zo;go_wp2;refine Fn (v:=.agg #[U 1,EQ xb H p10,d6]) (by simp[results,OX,go_sem,z0,z1,z2]) rfl ⟨⟨_,_,_,_,_,_,by rw[HC.o],λ_=>(LI.mono (k8 abd.size)).keep λk hk=>Ou.o k (by have:=(LI.lt k hk).1;have:=abd.size;omega)⟩,HZ⟩
 have HC:=I (show fd true g ⟨rs,rX,rY,rr,(K,D6),rp⟩=3 by unfold fd;rw[f7 j7,f9 hs]);have Jc:(rs != 1)=true:=by simp[hs]
 have Y2:=X4.o;have⟨q0,q1,q2,qf⟩:=KV.o w4 Y2;have⟨z,z0,z1,z2,zo⟩:=Fi.o w4 Y2 3 d6 (d6);have qq0:=@OX;exact Ul
end
section
variable{n:Nat}{l:k9}
theorem oR{f g:Nat->Rat}:∀{m},(∀k,k<m->f k<=g k)->A7 f m<=A7 g m
 | 0,_=>Rat.le_refl
 | m+1,h=>by
   have h1:=oR (m:=m) (λk hk=>h k j0);have h2:=h m j0;simp only[A7];grind
theorem tO{f:Nat->Rat}:∀{m},(∀k,k<m->0<=f k)->0<=A7 f m
 | 0,_=>Rat.le_refl
 | m+1,h=>by
   have h1:=tO (m:=m) (λk hk=>h k j0);have h2:=h m j0;simp only[A7];grind
theorem lG(l:o3)(j:Nat)(E:j<JL l):B4 (aG l) j=((l[j]?.getD 0:Int):Rat):=by
 unfold B4;rw[oE E,fz]
def MT(A:l8)(i j:Nat):Int:=(A[i]?.getD [])[j]?.getD 0
structure WT(A:l8)(B:o3)(C:l7)(r:G9):Prop where
 xl:r.X.length=C.length
 yl:r.Y.length=A.length
 bl:B.length=A.length
 x0:∀j,j<C.length->0<=B4 r.X j
 row:∀i,i<A.length->A7 (λj=>(MT A i j:Rat)*B4 r.X j) C.length=((B[i]?.getD 0:Int):Rat)
 DU:∀j,j<C.length->A7 (λi=>B4 r.Y i*(MT A i j:Rat)) A.length<=B4 C j
 cx:val r.value=A7 (λj=>B4 C j*B4 r.X j) C.length
 yb:val r.value=A7 (λi=>B4 r.Y i*((B[i]?.getD 0:Int):Rat)) A.length
theorem JW{A:l8}{B:o3}{C:l7}(ok:Ej A B C=true){r:G9}(hc:aQ az A B C r=true)(hs:r.status=1):WT A B C r:=by
 have⟨h1,h2,h3,h4,h5,h6⟩:=gR ok;unfold aQ at hc;rw[f9 hs]at hc;have⟨Q,hc⟩:=fl hc;have⟨hy,hc⟩:=fl hc;have⟨hb,hm⟩:=fl hc;unfold eO at Q;have⟨TY,Q⟩:=fl Q;have⟨Ih,hg⟩:=fl Q;have TY:=uf TY;have MH:=uf hy;have H:∀j,j<JL r.X->z7 (r.X[j]?.getD (0,0))=true/\0<=(r.X[j]?.getD (0,0)).1:=by
  intro j E;have:=gy.1 Ih (r.X[j]) (eN E);have⟨a,b⟩:=fl this;rw[Id E,Nm];exact⟨a,uf b⟩
 unfold jP at hm;cases Z:DZ C r.X with
 | none=>rw[Z]at hm;cases hm
 | some x =>
   cases e2:DZ r.Y (aG B)with
   | none=>rw[Z,e2]at hm;cases hm
   | some y =>
     rw[Z,e2]at hm;have⟨Eo,G⟩:=fl hm;have Eo:=uf Eo;have K:=uf G;obtain⟨d1,_,_,d4⟩:=eF Z;obtain⟨f1,_,_,f4⟩:=eF e2;refine⟨TY,by rw[MH,h3],h3,λj E=>(iO (H j j0).1).1 (H j j0).2,λi hi=>?_,λj E=>?_,?_,?_⟩
     ·have:=uf (gy.1 hg i (sj.2 hi));obtain⟨k1,_,_,k4⟩:=eF this;rw[fS]at k1 k4;rw[fz]at k4;rw[k4,k1,TY];exact bX λj E=>by rw[lG _ _ j0];rfl
     ·have:=gy.1 hb j (sj.2 E);unfold az at this;cases e3:DZ r.Y (aG (El A j))with
      | none=>rw[e3]at this;cases this
      | some v =>
        rw[e3]at this;have⟨s1,s2⟩:=fl this;have⟨g1,g2,g3,g4⟩:=oV s1;have SC:=(iO g3).1 (uf s2);obtain⟨k1,_,_,k4⟩:=eF e3;have LF:JL (El A j)=JL A:=by unfold El;simp
        rw[fS,LF]at k1;have e4:A7 (λi=>B4 r.Y i*(MT A i j:Rat)) (JL A)=val v:=by
         rw[k4,k1];exact bX λi hi=>by rw[lG _ _ (by rw[LF];exact hi),zk _ _ _ hi];rfl
        rw[e4];show val v<=val (C[j]?.getD (0,0))
        grind
     ·rw[<-K,d4]
     rw[<-K,Eo,f4,f1,fS,h3];exact bX λi hi=>by rw[lG _ _ j0]
theorem pR{N i j:Nat}(hi:i<n)(hi5:i<5)(E:j<N-1):MT (dM n N) i j=D3 (M2 ((1+j:Nat):Int) i):=by
 unfold MT dM EL;rw[vM,TA hi,yl,Nm];unfold DK EK;rw[vM,vM,TA E];simp only[yl,Nm];rw[dE _ _ j0 j0]
 norm_cast
theorem vJ(b:Bool):((D3 b:Int):Rat)=if b=true then 1 else 0:=by cases b<;>rfl
theorem gK(c:Rat)(f:Nat->Rat):∀m,A7 (λk=>c*f k) m=c*A7 f m
 | 0=>by simp only[A7];grind
 | m+1=>by simp only[A7];rw[gK c f m];grind
theorem lz(f:Nat->Nat->Rat)(m:Nat):∀n,A7 (λj=>A7 (λi=>f i j) m) n=A7 (λi=>A7 (λj=>f i j) n) m
 | 0=>by
   simp only[A7];exact(fK λ_ _=>rfl).symm
 | n+1=>by
   simp only[A7];rw[lz f m n];have:=kF (λi=>A7 (λj=>f i j) n) (λi=>f i n) 1 m;simp only[Rat.one_mul]at this;rw[this]
structure GC(w:J)(a:l9)(n cap:Nat)(l:k9):Prop where
 hlen:l.length=n
 r8:n<=cap
 r9:cap<=9223372036854775807
 cell:∀k,k<n->∃b off,a=some (O b off)/\∀k,k<n->w.cell? (O b (off+k*3))=some (U (l[k]?.getD (0,0,0)).1)/\w.cell? (O b (off+k*3+1))=some (U (l[k]?.getD (0,0,0)).2.1)/\w.cell? (O b (off+k*3+2))=some (U (l[k]?.getD (0,0,0)).2.2)
theorem GC.aq9{w:J}{a:l9}{n cap:Nat}{l:k9}(h:GC w a n cap l):n<=cap/\cap<=9223372036854775807:=⟨h.r8,h.r9⟩
theorem GC.ext{w w':J}{a:l9}{cap:Nat}(h:GC w a n cap l)(hx:C7 w w'):GC w' a n cap l :=
 ⟨h.hlen,h.r8,h.r9,λk E=>let⟨b,off,e,hc⟩:=h.cell k E;⟨b,off,e,λk E=>⟨hx.o6 (hc k E).1,hx.o6 (hc k E).2.1,hx.o6 (hc k E).2.2⟩⟩⟩
theorem GC.at{w:J}{a:l9}{cap:Nat}(h:GC w a n cap l){k:Nat}(E:k<n):
 ∃b off x y z,a=some (O b off)/\l[k]?.getD (0,0,0)=(x,y,z)/\w.cell? (O b (off+k*3))=some (U x)/\w.cell? (O b (off+k*3+1))=some (U y)/\w.cell? (O b (off+k*3+2))=some (U z) :=
 let⟨b,off,e,hc⟩:=h.cell k E;⟨b,off,_,_,_,e,rfl,(hc k E).1,(hc k E).2.1,(hc k E).2.2⟩
theorem jY{k:Nat}(h:k<JL l):l.take (k+1)=l.take k++[l[k]?.getD (0,0,0)]:=by
 rw[xl h];simp[h]
def y4(p:Int×Int×Int):List arQ:=[U p.1,U p.2.1,U p.2.2]
def Xi(l:k9):Array arQ:=(l.flatMap y4).toArray
theorem jj:∀(l:k9) (k:Nat),k<JL l->(l.flatMap y4)[k*3]?=some (U (l[k]?.getD (0,0,0)).1)/\(l.flatMap y4)[k*3+1]?=some (U (l[k]?.getD (0,0,0)).2.1)/\(l.flatMap y4)[k*3+2]?=some (U (l[k]?.getD (0,0,0)).2.2)
 | [],k,h=>absurd h j7
 | p::l,0,_=>by simp[y4]
 | p::l,k+1,h=>by
   have:=jj l k ri;rw[show(k+1)*3=k*3+1+1+1 by omega]
   simpa[y4]using this
theorem Xj:∀(l:k9) (k:Nat) (x y z:Int),k<JL l->(((l.flatMap y4).set (k*3) (U x)).set (k*3+1) (U y)).set (k*3+2) (U z)=(l.set k (x,y,z)).flatMap y4
 | [],k,_,_,_,h=>absurd h j7
 | p::l,0,_,_,_,_=>by simp[y4]
 | p::l,k+1,x,y,z,h=>by
   have:=Xj l k x y z ri;rw[show(k+1)*3=k*3+1+1+1 by omega]
   simpa[y4]using this
def QT(w:J)(b:Nat)(t:TypeId)(l:k9):Prop:=w.heap[b]?=some (QD (Xi l) t (0,0))
end
section
variable{w:J}
def M0(h:σ:=by
 have⟨hb,WC⟩:=e9 (Gd ((j:Int)+1) (k:Int));have Sh:=I (λw'=>bE ((j:Int)+1) (k:Int) w' j0);simp only[<-WC]at Sh;have Od:=I (λw'=>fH hb w');have F9:=I (lj (l:=L) (j:=j) (k:=k) (b:=hb) N5 (by rw[Hc.o j j0];exact WC.symm));have Fq:=I (show(DK (L.take j) k).length=j by simp only[DK,dc,k6];rw[EW.o];omega);have⟨bt,Ni⟩:=e9 (D3 hb);rw[<-Ni]at F9;simp only[<-Ni]at Od;clear WC Ni
 go_wp2_with (first
  | (go_at_call 99;refine(Sh _).mono ?_;rintro e w4 ⟨rfl,rfl⟩)
  | (go_at_call 170;refine(Od _).mono ?_;rintro e w4 ⟨rfl,rfl⟩)
  | (at_builtin;refine Ub bt HO B7 fv λa5 n5 c5 w5 It X5 DT=>?_))
 refine vE ?_;exact⟨j+1,a5,n5,c5,I (k8 HJ.o),by go_num,rfl,I cd,X5⟩
 ):σ:=h
def LQ(h:σ:=by
 rw[GE _ _ _ _ (show j≠w.heap.size+1 by omega),GE _ _ _ _ (show j≠w.heap.size+1 by omega),GE _ _ _ _ (show j≠w.heap.size+1 by omega)]
 ):σ:=h
def G3(h:σ:=by
 rw[hv,Id (by rw[HVL.o];exact hlt),Nm];exact IG.o _ (eN _)
 ):σ:=h
theorem xD{p:Int}{a:l9}{n cap:Nat}{V:o3}(h:d9 w a n cap V):
 Calls prog 111 #[FS p a n cap] w λe w'=>Yc w' e (dM p.toNat n) (dY p.toNat) (aW V) (ak p V)/\C7 w w':=by
 have⟨W,hW⟩:=e9 ((w.alloc (QD #[U p,GI a n cap] 31)).alloc (QD #[d6,d6,d6] 105));refine ns (show W.heap.size=w.heap.size+2 by rw[hW];simp) (show C7 w W by rw[hW];exact WU.trans WU) (show W.cell? (O w 1)=some (GI a n cap)by rw[hW];simp) (show W.cell? (O w 0)=some (U p)by rw[hW];simp) (show W.heap[w.heap.size+1]?=some (QD #[d6,d6,d6] 105 (0,0))by rw[hW];exact IO j7) λDW A8 NZ M3 R5=>?_;have⟨WG,Rc⟩:=e9 (w.alloc (QD #[U p,GI a n cap] 31));refine Op (show C7 WG W by rw[hW,Rc];exact WU) (show WG.heap.size=w.heap.size+1 by rw[Rc];simp) (show WG.cell? (O w 0)=some (U p)by rw[Rc];simp) (show WG.cell? (O w 1)=some (GI a n cap)by rw[Rc];simp) λHXG MB HG0 Sj=>?_;clear Rc;have HVL:=I h.hlen;have⟨ND,NC⟩:=h.aq9;have I6:=I (h.ext A8);have HC:=I (bY (p:=p) (h.ext A8));have J':(w.heap.size+1)<W.heap.size:=by rw[DW.o];omega
 have DO:=I (λ(w':J) (hx:C7 W w')=>(hx.block _ J').trans R5);clear h J';cases hg:ak p V
 ·have qq0:=@results111;exact Qv
 obtain⟨q,rfl,h1,h5,hlen,_,FG⟩:=ap hg;have hq:=bp q h5;have GQ:n<=32:=by rw[<-HVL.o,hlen];omega
 have FT:1<=n:=by rw[<-HVL.o,hlen];omega
 have IG:=I FG;have HCL:=I (show(aW V).length=n-1 by unfold aW;simp[HVL.o]);rw[hg,hW]at HC;clear hg hlen FG hq;go_in
 go_wp2_with fail;refine HC.mono ?_;rw[<-hW];clear hW;rintro e w1 ⟨rfl,A'⟩;have IK:=A'.size;rw[DW.o]at IK;have A0:=I A';have Nr:=I (C9.new (w:=w1) (base:=w.heap.size+2) IK);have⟨g,Kb⟩:=e9 w1.heap.size;have⟨E,hE⟩:=e9 (w1.alloc (QD #[d6,d6,d6] 105));have Qc:=I (show C7 W E by rw[hE];exact A'.trans WU);rw[<-Kb,<-hE]at Nr;clear A';go_upto_region 4 with fail;rw[<-hE,<-Kb];clear hE Kb;go_wp2
 go_loopg [5] (n-1) (λgk ii wr=>∃(k:Nat) (vc:arQ),b9 (gk+k=n-1)/\ii=U ((k+1:Nat):Int)/\b9 (C9 wr (w+2) g d6 (d6) vc [] [] [] ((aW V).take k))/\b9 (C7 W wr))
 ·exact⟨0,_,I j0,rfl,Nr,Qc⟩
 rename Nat=>g1;rename J=>y9;obtain⟨k,vc,HK,rfl,Fb,HX⟩:=hrel;have hsz:=HX.size;rw[DW.o]at hsz;have RT:=HX.o6 NZ.o;by_cases hlt:k+1<n
 ·have⟨eb,DI,IU,Fg⟩:=(I6.ext HX).at hlt;subst IU;have⟨v,hv⟩:=e9 (V[k+1]?.getD 0);have FG:-500<=v/\v<=500:=by
   exact G3
  rw[<-hv]at Fg;have Y6:=I (show W.cell? ⟨eb,DI+(k+1),none⟩=some (U v)by
   have⟨eb',Xp,NJ,he'⟩:=I6.at hlt;obtain⟨rfl,rfl⟩:=aM NJ;clear NJ;rw[hv];exact he')
  have F9:=I (lZ HVL.o hlt hv.symm);have Pd:=dk (-v);have KN:(0:Int)<=((k+1:Nat):Int):=j0;have Gj:((k+1:Nat):Int)<(n:Int):=j0;have Wz:=wq (((k+1:Nat):Int)+1) ((k+1+1:Nat):Int);have o7:(0:Int)<=(k:Int)+1:=j0;have JH:(k:Int)+1<(n:Int):=j0;have hk4:((k:Int)+1).toNat=k+1:=j0;have Ow:=I (show((aW V).take k).length=k by rw[k6,HCL.o];omega);have t2:=Fb.c2;clear hv;have o8:=I λw' (h:C7 y9 w')=>TX (h.o6 t2) (TX (h.o6 RT) (TX (h.o6 Fg) (HX.trans h)));have G:=C7.drew y9;go_upto_region 7 with fail;refine cD (M:=[12]) (S:=λw'=>w'.cell? (O g 2)=some vc/\w'.cell? (O w 1)=some (GI (some (O eb DI)) n cap)/\w'.cell? ⟨eb,DI+(k+1),none⟩=some (U v)/\C7 W w') j8 ?_;have o9:=o8.o _ G;have⟨wd,hwd⟩:=e9 y9.drew;rw[<-hwd]at G o9;rw[<-hwd];clear hwd;have Q5:=G.size;refine Rv ⟨?_⟩;refine lp 7 ?_;refine Gp 8 λK hK=>?_
  go_simp;go_at_call 97;refine IR (cL _ _) λw3 B5=>?_;have G:C7 y9 w3:=G.trans B5;have J8:=G.size;go_wp2_with fail;refine KL (o8 _ G) λo9=>?_
  refine Gp 9 λK hK=>?_;go_simp;refine hK.out _ _ (λ_=>o8.o _ (G.trans WU)) ?_;clear hK K
  try simp only[Act.put,sA,sB,sC]
  refine Gp 10 λK hK=>?_;refine dq _ _ j9 (w+2) vc _ j9 ((Fb.c.ext G).ext WU) _ 1 _ [(-v,1)] j9 (C2 rfl) UR m9 ?_;intro v6 w6 ho Js Z;obtain⟨a6,n6,q6,rfl,Ia⟩:=ho.var;have Nq:=I (Fb.Sr (G.trans WU) Js ho);have P':=Fb.aaY (G.trans WU) Js;have c26:=C9.F3 P';have cf6:=C9.F2 P';have L0:C7 W w6:=aj ((HX.trans G).trans WU) Js (λj hj=>by rw[DW.o];exact(Fb.c.lt j hj).1);clear ho Js Z P';refine KL (hJ c26 (hJ (L0.o6 NZ) (hJ (L0.o6 Y6) L0))) λo9=>?_;refine lp 11 ?_;refine OJ 12 ?_;refine cQ j8 ?_ _;have IZ:=I (L0.setCell (p:=(O g 2)) db (GI a6 n6 q6));have⟨W9,ID⟩:=e9 (w6.setCell (O g 2) (GI a6 n6 q6));rw[<-ID]at Nq IZ;go_upto_region 6 with fail;rw[<-ID];clear ID c26 cf6 o9 G L0 t2;go_wp2_with fail
  refine kf ?_;exact⟨k+1,_,I (k8 HK.o),by go_num,I (by rw[<-F9.o];exact Nq),IZ⟩
 have hT:(aW V).take k=aW V:=bR (by rw[HCL.o];omega);rw[hT]at Fb;have adQ:=HX.o6 M3.o;obtain⟨aC,nC,cC,rfl,HNC⟩:=Fb.c.var;have Ez:¬((k:Int)+1)<(n:Int):=j0;have⟨L,hL⟩:=e9 (EK 1 (n-1));have EW:=I (show JL L=n-1 by rw[hL];simp[EK]);have Hc:=I (λ(j:Nat) (hj:j<n-1)=>show L[j]?.getD 0=(j:Int)+1 by
  rw[hL,Id (by simp[EK];exact hj)]
  simp[EK];omega)
 have HLE:=I hL;clear hT hL;go_wp2
 go_loopg [6] q (λgk ii wr=>∃(k:Nat) (va vb:arQ) (vs:List arQ),b9 (gk+k=q)/\ii=U k/\b9 (C9 wr (w+2) g va vb (GI aC nC cC) vs (EL k L) (List.replicate k 1) (aW V))/\b9 (C7 W wr))
 ·exact⟨0,_,_,[],I j0,rfl,Fb,HX⟩
 rename Nat=>g2;rename J=>wr2;obtain⟨k,va,vb,vs,PU,rfl,Ea,C0⟩:=hrel;have Iz:=C0.size;rw[DW.o]at Iz;have LV:=C0.o6 M3.o;have MM:=C0.o6 NZ.o;by_cases To:k<q
 ·have HO1:=I (r'.D2 wr2 wr2 _ rfl (i8 _));have hkqi:=Rd k q;go_wp2
  go_loopg [7,8] (n-1) (λgk row ii wr=>∃(j:Nat) (a2:l9) (n2 p2:Nat),b9 (gk+j=n-1)/\ii=U ((j+1:Nat):Int)/\row=GI a2 n2 p2/\b9 (r' wr wr2 (GI a2 n2 p2) (DK (L.take j) k))/\b9 (C7 wr2 wr))
  ·exact O0
  obtain⟨j,a2,n2,p2,HJ,rfl,rfl,HO,B7⟩:=hrel;have KI:=B7.size;have Oh:=B7.o6 MM;by_cases F0:j+1<n
  ·have hjw:=wq (((j+1:Nat):Int)+1) ((j+1+1:Nat):Int);have adE:(j:Int)+1<(n:Int):=j0;exact M0
  have adE:¬((j:Int)+1)<(n:Int):=j0;have hTL:L.take j=L:=bR N5;rw[hTL]at HO;have HMS:=I (ur k L);have HVL:=I (show JL vs=k by rw[Ea.rows.len];simp[EL]);have H:=I (Ea.ext B7);have t0:=H.c0;have bf:=H.free;clear hTL;go_upto_region 17 with(first
   | (at_builtin;refine eY rfl _ _ rfl (w+2) va vs rfl (H.a.ext WU) _ _ 1 rfl N3 rfl ds m9 ?_;intro v6 w6 ho hg Z;have O7:=I (Ea.Lf (B7.trans WU) (HO.ext WU) j0 hg ho Z);have Mv:=H.OR WU hg;have hc6:=C9.FF Mv;have hf6:=C9.F2 Mv;have X6:=I ((((C0.trans B7).trans WU).grown hg (λj hj=>by rw[DW.o];exact(Ea.a.lt j hj).1)).store (b:=g) 0 TP v6);obtain⟨a6,n6,p6,rfl,Ia⟩:=ho.var;clear ho hg Z Mv))
  have⟨W6,hW6⟩:=e9 (w6.setCell (O g 0) (GI a6 n6 p6));rw[<-hW6]at O7 X6;rw[<-hW6];clear hW6 hc6 hf6 t0 bf;have t1:=O7.c1;have bf:=O7.free;have hgl6:=O7.lt;have FU:b9 (C7 W W6):=X6;have hs6:=FU.size;rw[DW.o]at hs6
  go_wp2_with (first
   | (at_builtin;refine bK rfl _ _ rfl (w+2) vb _ rfl (O7.b.ext WU) _ 1 _ [1] rfl (K4 j7) m9 m9 ?_;intro v9 w9 ho Gt Z;have Kx:=I (O7.pushB WU Gt ho Z);have EX:=O7.OQ WU Gt;have Y0:=C9.FE EX;have SM:=C9.F2 EX;have X9:=I (((FU.trans WU).grown Gt (λj hj=>by rw[DW.o];exact(O7.b.lt j hj).1)).store (b:=g) 1 TP v9);obtain⟨a9,n9,q9,rfl,N'⟩:=ho.var;clear ho Gt Z EX))
  refine Y2 ?_;exact⟨k+1,_,_,_,I (k8 PU.o),by go_num,I (by have h1:=Kx.o;rw[HMS.o,<-eo]at h1;exact h1),X9⟩
 have aar:q=k:=k8 PU.o;have hnk:¬(k:Int)<(q:Int):=j0;subst aar;obtain⟨aA,nA,cA,rfl,SY⟩:=Ea.a.var;obtain⟨aB,nB,cB,rfl,TJ⟩:=Ea.b.var;have t0:=Ea.c0;have t1:=Ea.c1;have t2:=Ea.c2;have H9:=Ea.hg;have IA:=DO.o wr2 C0.o;have Eb:=C9.FF IA;have Eh:=C9.FE IA;have FZ:=C9.F3 IA;have Ip:=C9.F2 IA;have WA:∀j,w.heap.size+2<=j->(((wr2.setCell (O (w+1) 0) (GI aA nA cA)).setCell (O (w+1) 1) (GI aB nB cB)).setCell (O (w+1) 2) (GI aC nC cC)).heap[j]?=wr2.heap[j]?:=λj Gj=>by
  exact LQ
 clear IA;go_wp2;refine Fn (v:=.tuple #[Ig aA nA cA aB nB cB aC nC cC,bl true]) (by simp[results,results111,go_sem,Eb,Eh,FZ]) rfl ⟨⟨aA,nA,cA,aB,nB,cB,aC,nC,cC,rfl,λ_=>⟨?_,?_,?_⟩⟩,(((A8.trans C0).store 0 j0 _).store 1 j0 _).store 2 j0 _⟩
 ·have h0:bZ wr2 (w+2) (GI aA nA cA) (EL q L):=⟨vs,Ea.a,Ea.rows⟩;rw[HLE.o]at h0;exact bZ.Kq (h0.on _ λj h1 _=>WA j h1)
 ·exact(Ea.b.on _ λj h1 _=>WA j h1).ints
 exact(Ea.c.keep λj h1=>WA j (Ea.c.lt j h1).1).rats
theorem CO{Y:l7}{k:Nat}(h:k<JL Y):(Y.take k).map C5++[C5 (Y[k]?.getD (0,0))]=(Y.take (k+1)).map C5:=by rw[es h,sr];rfl
theorem jH{w':J}{b:Nat}(h:w'.heap[b]?=w.heap[b]?)(o:Nat):w'.cell? (O b o)=w.cell? (O b o):=by simp only[World.cell?,h]
theorem Br{p:Int}{a:l9}{n cap:Nat}{V:o3}(h:d9 w a n cap V):
 Calls prog 46 #[FS p a n cap] w λe w'=>Nn w' w e (fD (ak p V) (bu p V) (bG az (dM p.toNat n) (dY p.toNat) (aW V))) (aS (bu p V) (bG az (dM p.toNat n) (dY p.toNat) (aW V)))/\C7 w w':=by
 have⟨W,hW⟩:=e9 ((w.alloc (QD #[.int .i64 p,GI a n cap] 31)).alloc (QD #[.int .i64 0,GI none 0 0,GI none 0 0] 71));have Ml:W.heap.size=w.heap.size+2:=by rw[hW];simp
 have hX:C7 w W:=by rw[hW];exact WU.trans WU
 refine ns (show W.heap[w.heap.size+1]?=some (QD #[.int .i64 0,GI none 0 0,GI none 0 0] 71 (0,0))by rw[hW];exact IO j7) (show W.cell? ⟨w,0,none⟩=some (.int .i64 p)by rw[hW];exact C7.o6 WU j7) (show W.cell? ⟨w,1,none⟩=some (GI a n cap)by rw[hW];exact C7.o6 WU j7) (h.ext hX) hX λDO I9 Jt HI HX=>?_;have J1:=I (xD (p:=p) HI);have⟨g,Ms⟩:=e9 (bu p V);have⟨r,Eb⟩:=e9 (bG az (dM p.toNat n) (dY p.toNat) (aW V));have HG:=I Ms;have Fv:=I Eb;rw[<-Ms,<-Eb];have Fi:=I (λ(w':J) (hx:C7 W w') (code:Int) (x1 x2:arQ)=>zm (w:=w) ((hx.block _ j0).trans DO) (HX.trans hx) (b7 _) (.int .i64 code) x1 x2);have KV:=I (λ(w':J) (hx:C7 W w')=>fL ((hx.block _ j0).trans DO));clear h hX Ms Eb;cases hgo:ak p V
 ·rw[hgo]at J1;have HC:b9 (fD false g r=0):=I (rfl);have qq0:=@O5;exact XS
 rw[hgo]at J1;have Yg:=I (BZ hgo (dM p.toNat n) (dY p.toNat));obtain⟨q,D4,Hh,JF,QE,_,Mx⟩:=ap hgo;have H9:-500<=g/\g<=500:=by rw[HG.o,eT hgo];exact ks Mx _
 have EJ:=I D4;clear hgo QE Mx D4;go_in
 go_wp2_with fail;rw[<-hW];refine J1.mono ?_;rintro e w1 ⟨⟨la,KB,KF,lb,KA,KE,lc,Kz,KD,rfl,Om⟩,hx⟩;unfold Ig;have⟨w2,hw2⟩:=e9 (w1.alloc (bT la KB KF lb KA KE lc Kz KD));have C4:C7 w1 w2:=by rw[hw2];exact WU
 have X2:=I (hx.trans C4);have Ff:=I (ls ((Om rfl).ext C4));rw[<-Yg.o,<-Fv.o]at Ff;have Oq:w2.heap[w1.heap.size]?=some (QD #[GI la KB KF,GI lb KA KE,GI lc Kz KD] 105 (0,0)):=by rw[hw2];exact IO rfl
 have t0:=aw Oq;have t1:=aI Oq;have t2:=aJ Oq;go_upto_region 2 with fail;rw[<-hw2];clear hx C4 Om hw2 hW Oq;go_wp2_with fail;refine Ff.mono ?_
 have F4:=I (λ(hs:r.status=1)=>show JL r.Y=q/\z7 r.value=true/\∀k,k<JL r.Y->z7 (r.Y[k]?.getD (0,0))=true by
  have:=fu (bound:=az) (A:=dM p.toNat n) (B:=dY p.toNat) (C:=aW V) rj;rw[<-Fv.o]at this;refine⟨?_,this.2.2.2.2⟩;rw[this.2.2.2.1];unfold dY;rw[G6,EJ.o,gg])
 rintro e w3 ⟨⟨xa,xn,xc,ya,yn,yc,ra,rn,rc,rfl,Ka⟩,B5⟩;have⟨w4,FY⟩:=e9 (w3.alloc (cZ r xa xn xc ya yn yc ra rn rc));have DN:C7 w3 w4:=by rw[FY];exact WU
 refine t8 ((X2.trans B5).trans DN) (Ka.here.ext DN) (show w4.heap[w3.heap.size]?=some (cZ r xa xn xc ya yn yc ra rn rc)by rw[FY];exact IO rfl) λX4 Ft Ek=>?_;obtain⟨rs,rX,Z,rr,⟨Ei,D6⟩,rp⟩:=r;unfold H8;go_upto_region 5 with fail;rw[<-FY];clear Ka B5 DN FY t0 t1 t2;generalize w3.heap.size=b5 at Ek⊢;have⟨l0,l1,l2,l3,l4,l5,l6,lf⟩:=Ef Ek.o
 try simp only at l0 l1 l2 l3 l4 l5 l6
 have JT:=I (λ(w':J) (hx:C7 W w')=>iK (p:=p) (HI.ext hx));simp only[<-HG.o]at JT;have b0:=X4.o6 I9.o;have b1:=X4.o6 Jt.o;obtain⟨s1,s2,one,Pe⟩:∃s1 s2 o,Ev (g,1) (Ei,D6)=((s1,s2),o):=⟨_,_,_,rfl⟩;have F5:=I Pe;have Lx:b9 (eL g ⟨rs,rX,Z,rr,(Ei,D6),rp⟩=((s1,s2),one)):=Pe;clear Pe;go_upto_region 5 with fail
 go_cut [6,7] (λsx so wx=>∃g6:Nat,sx=aP (some ⟨g6,0,none⟩)/\so=bl one/\b9 (ah w4 wx g6 s1 s2))
 case first =>
  have o7:=C7.drew w4;have D0:C7 w4 (w4.alloc (QD #[.int .i64 0,.int .i64 0] 56)).drew:=WU.trans cn;have o8:=I (λ(w':J) (h:C7 w4 w')=>(an (h.o6 b0) (an (h.o6 b1) (an (h.o6 l4) (an (h.o6 l5) h)))))
  go_region_held3 (λw'=>w'.cell? ⟨w,0,none⟩=some (.int .i64 p)/\w'.cell? ⟨w,1,none⟩=some (GI a n cap)/\w'.cell? ⟨b5,4,none⟩=some (.int .i64 Ei)/\w'.cell? ⟨b5,5,none⟩=some (.int .i64 D6)/\C7 w4 w')
   (exact Hz)
   (first
     | ((with_reducible refine(JT.o _ (X4.o.trans Mt)).mono ?_)
        rintro e w5 ⟨rfl,B0⟩
        first|(with_reducible have A1:=ah.grow A1 B0)|(with_reducible have A1:=ah.DS B0)|(with_reducible have A1:=ah.DX o7 B0)|skip
        first|(have IX:=A1.c0;have IW:=A1.c1;have Kf:=A1.free)|skip
        have o7:C7 w4 w5:=XG;have FB:=o7.size)
     | ((with_reducible refine(cL _ _).mono ?_)
        rintro e w6 ⟨rfl,Iy⟩
        first|(with_reducible have A1:=ah.grow A1 Iy)|(with_reducible have A1:=ah.DS Iy)|(with_reducible have A1:=ah.DX o7 Iy)|skip
        first|(have IX:=A1.c0;have IW:=A1.c1;have Kf:=A1.free)|skip
        have o7:C7 w4 w6:=Zu;have FB:=o7.size)
     | ((with_reducible refine(iZ _ _ _ _ _).mono ?_)
        rw[F5.o];rintro e w7 ⟨rfl,ER⟩
        first|(with_reducible have A1:=ah.grow A1 ER)|(with_reducible have A1:=ah.DS ER)|(with_reducible have A1:=ah.DX o7 ER)|skip
        first|(have IX:=A1.c0;have IW:=A1.c1;have Kf:=A1.free)|skip
        have o7:C7 w4 w7:=Qt;have FB:=o7.size))
  all_goals(exact Jm)
 obtain⟨g6,rfl,rfl,I'⟩:=hcut;have XC:=X4.trans I'.ext;refine t8 XC (I'.ext.blk Ek) (Ft.y.ext I'.ext) λJZ Nt HYC=>?_;have e0:=I'.c0;have e1:=I'.c1;clear l0 l1 l2 l3 l4 l5 l6 lf b0 b1;have⟨l0,l1,l2,l3,l4,l5,l6,lf⟩:=Ef Nt.o
 try simp only at l0 l1 l2 l3 l4 l5 l6
 by_cases hs:rs=1;rotate_left
 ·have HC:=I (show fD true g ⟨rs,rX,Z,rr,(Ei,D6),rp⟩=3 by unfold fD;rw[f7 j7,f9 hs]);have Jc:(rs != 1)=true:=by simp[hs]
  have⟨q0,q1,q2,qf⟩:=KV.o wc XC;have⟨z,z0,z1,z2,zo⟩:=Fi.o wc XC 3 (GI none 0 0) (GI none 0 0);have qq0:=@O5;exact Ul
 have⟨MH,LQ,JB⟩:=F4.o hs
 try simp only at MH LQ JB
 subst hs;have Ye:=I JB;have MZ:=I MH;clear LQ JB MH;cases one
 ·have HC:=I (show fD true g ⟨1,rX,Z,rr,(Ei,D6),rp⟩=3 by unfold fD;rw[f7 j7,f7 j7,Lx.o];rfl);have⟨q0,q1,q2,qf⟩:=KV.o wc XC;have⟨z,z0,z1,z2,zo⟩:=Fi.o wc XC 3 (GI none 0 0) (GI none 0 0);have qq0:=@O5;exact Ul
 by_cases GP:s1<0
 ·have HC:=I (show fD true g ⟨1,rX,Z,rr,(Ei,D6),rp⟩=2 by unfold fD;rw[f7 j7,f7 j7,Lx.o];simp[GP]);have⟨q0,q1,q2,qf⟩:=KV.o wc XC;have⟨z,z0,z1,z2,zo⟩:=Fi.o wc XC 2 (GI none 0 0) (GI xa xn xc);have qq0:=@O5;exact PF
 have Lj:yn=q:=by have h1:=HYC.hlen;have h2:=MZ.o;(try simp only at h1);omega
 have Y4:=I Lj;have hyn5:yn<=5:=j0;have hyc:=HYC.r8;have hym:=HYC.r9;clear Lj;have⟨w8,Q0⟩:=e9 (wc.alloc (QD #[.int .i64 1,GI none 0 0,GI none 0 0] 71));have Sy:C7 wc w8:=by rw[Q0];exact WU
 have OC:=I (show w8.heap[wc.heap.size]?=some (QD #[.int .i64 1,GI none 0 0,GI none 0 0] 71 (0,0))by rw[Q0];exact IO rfl);have Sa:=I (show w8.heap.size=wc.heap.size+1 by rw[Q0];simp);go_upto_region 11 with fail;rw[<-Q0];clear Q0;have hs8:=Sy.size;have Ma:=I Sy;have⟨b8,hb8⟩:=e9 wc.heap.size;have QU:=I hb8;rw[<-hb8]at OC Sa;rw[<-hb8];clear Sy hb8;go_wp2
 go_loopg [9] yn (λgk ii wr=>∃(k:Nat) (a1:l9) (n1 p1:Nat),b9 (gk+k=yn)/\ii=.int .i64 (k:Int)/\b9 (WV wr (b8+1) (GI a1 n1 p1) ((Z.take k).map C5))/\b9 (wr.heap[b8]?=some (QD #[.int .i64 1,GI a1 n1 p1,GI none 0 0] 71 (0,0)))/\b9 (C7 wc wr)/\b9 (b8+1<=wr.heap.size))
 ·exact⟨0,none,0,0,I j0,rfl,I qj,OC,Ma,I (by rw[Sa.o];exact i8 _)⟩
 rename Nat=>g1;rename J=>wr;obtain⟨k,a1,n1,p1,HK,rfl,HO,Jv,GV,HSR⟩:=hrel;have QT:=I (GV.blk Nt);clear l0 l1 l2 l3 l4 l5 l6 lf;have⟨l0,l1,l2,l3,l4,l5,l6,lf⟩:=Ef QT.o
 try simp only at l0 l1 l2 l3 l4 l5 l6
 have⟨m0,m1,m2,mf⟩:=fL Jv.o;by_cases hlt:k<yn
 ·obtain⟨yb,yo,y1,y2,rfl,YI,EN,KG⟩:=(HYC.ext GV).at hlt;have hkY:k<JL Z:=by rw[MZ.o,<-Y4.o];exact hlt
  have Na:=aU (Ye k hkY)
  try simp only at YI
  rw[YI]at Na
  try simp only at Na
  have F9:=I (CO hkY);rw[YI]at F9;have Ow:=I (show((Z.take k).map C5).length=k by rw[dc,k6];omega);have B6:=C7.drew wr;have o8:=I λw' (h:C7 wr w')=>TX (h.o6 m1) (TX (h.o6 l2) (TX (h.o6 EN) (h.o6 KG)));have hb5n:b5≠b8:=by have:=In Nt.o;have:=QU.o;omega
  have HYB:=I (show yb<b8 by
   obtain⟨u1,u2,u3,u4,hu,Q3,Wa,_⟩:=HYC.at hlt;simp only[bq,H4,E5]at hu;have h1:=O4 _ _ Wa;have:=QU.o;simp only at h1;omega)
  have hhsr:=HSR.o;clear YI;go_wp2_with fail;refine cD (M:=[11]) (S:=λw'=>w'.cell? ⟨b8,1,none⟩=some (GI a1 n1 p1)/\w'.cell? ⟨b5,2,none⟩=some (GI (some ⟨yb,yo,none⟩) yn yc)/\w'.cell? ⟨yb,yo+k*2,none⟩=some (.int .i64 y1)/\w'.cell? ⟨yb,yo+k*2+1,none⟩=some (.int .i64 y2)) j8 ?_;have o9:=o8.o _ B6;have⟨wd,hwd⟩:=e9 wr.drew;rw[<-hwd]at B6 o9;rw[<-hwd];clear hwd;have Q5:=B6.size;refine Rv ⟨?_⟩;refine Gp 7 λK hK=>?_;go_simp;go_at_call 106;refine IR (eW y1 y2 _ j0 j0) λw9 hx9=>?_;have B6:C7 wr w9:=B6.trans hx9;have YP:=B6.size;go_wp2_with fail;refine KL (o8 _ B6) λo9=>?_
  refine Gp 8 λK hK=>?_;go_simp;refine hK.out _ _ (λ_=>o8.o _ (B6.trans WU)) ?_;clear hK K
  try simp only[Act.put,sA,sB,sC]
  refine Gp 9 λK hK=>?_;refine dq _ _ j9 (b8+1) (GI a1 n1 p1) _ j9 ((HO.ext B6).ext WU) _ 1 _ [(-y1,y2)] j9 (C2 rfl) UR m9 ?_;intro v6 Nx ho hg r7;obtain⟨a6,n6,p6,rfl,Ia⟩:=ho.var;have EP:=I ho;have adW:=(hg.block b8 (by have:=HSR.o;simp;omega) (λe=>by have:=(HO.lt b8 e.symm).1;omega)).trans ((B6.trans WU).blk Jv);have⟨u0,u1,u2,ufq⟩:=fL adW;have PR:=I (aj (GV.trans (B6.trans WU)) hg (λj hj=>by have:=(HO.lt j hj).1;have:=QU.o;omega));have adk:=hg.size;have hcl2:=(hg.block b5 (by have:=In QT.o;simp;omega) (λe=>by have:=(HO.lt b5 e.symm).1;have:=In Nt.o;have:=QU.o;omega)).trans ((B6.trans WU).blk QT);have adS:=(Ef hcl2).2.2.1;have YH:=PR.o;have Wz:=B6.trans (C7.alloc w9 (QD #[.int .i64 (-y1),.int .i64 y2] 56));have hyg:=hg.block yb (by have:=HYB.o;have:=HSR.o;have:=Wz.size;omega) (λe=>by have:=(HO.lt yb e.symm).1;have:=HYB.o;omega);clear ho hg r7;refine hK.out _ _ (λ_=>hJ u1 (hJ adS (hJ ((jH hyg _).trans (Wz.o6 EN)) ((jH hyg _).trans (Wz.o6 KG))))) ?_;have o9:=hJ u1 (hJ adS (hJ ((jH hyg _).trans (Wz.o6 EN)) ((jH hyg _).trans (Wz.o6 KG))));clear hK K
  try simp only[Act.put,sA,sB,sC]
  refine lp 10 ?_;refine OJ 11 ?_;refine cQ j8 ?_ _;refine t8 (((WV.on EP).set (a:=⟨b8,1,none⟩) (by show b8<b8+1;omega) (GI a6 n6 p6)).here) (show(Nx.setCell ⟨b8,1,none⟩ (GI a6 n6 p6)).heap[b8]?=some (QD #[.int .i64 1,GI a6 n6 p6,GI none 0 0] 71 (0,0))from cE Nx b8 1 _ _ _ adW) (PR.setCell (p:=⟨b8,1,none⟩) (by show wc.heap.size<=b8;have:=QU.o;omega) (GI a6 n6 p6)) λTH PZ TA=>?_;have⟨Pc,RG⟩:=e9 (Nx.setCell ⟨b8,1,none⟩ (GI a6 n6 p6));rw[<-RG]at TH PZ TA;have OW:=I (show b8+1<=Pc.heap.size by have:=In PZ.o;omega);go_upto_region 13 with fail;rw[<-RG];clear RG o9 B6 adW u0 u1 u2 ufq hcl2 adS YH Wz hyg l0 l1 l2 l3 l4 l5 l6 lf m0 m1 m2 mf;go_wp2_with fail
  refine kf ?_;exact⟨k+1,a6,n6,p6,I (k8 HK.o),by go_num,I (by rw[<-F9.o];exact TH),PZ,TA,OW⟩
 have DV:k=yn:=k8 HK.o;subst DV;have hT:Z.take k=Z:=bR (by rw[MZ.o,<-Y4.o];exact i8 _);rw[hT]at HO;have FT:n1=q:=by rw[<-HO.rats.hlen,dc];exact MZ
 have HN1:=I FT;have LC:JL (Z.map C5)=q:=by rw[dc];exact MZ
 obtain⟨u,hu⟩:∃u:Nat,u+1=q:=⟨q-1,by omega⟩;have LB:u<n1:=j0;have HPU:=I (show p-1=(u:Int)by have:=EJ.o;omega);have YK:IntKind.i64.wrap (p-1)=(u:Int):=by rw[HPU.o,mn];have:=EJ.o;omega
 have KZ:=ST u;have hul:=Rd u n1;have⟨H,Tt,H9,WE,JK⟩:=HO.block LB;subst Tt;have⟨y0,y1,x1,x2,YH,Tf,RD,Sx⟩:=HO.rats.at LB;simp only[bq,H4,E5]at YH;obtain⟨rfl,rfl⟩:=YH;rw[hI]at RD Sx;obtain⟨k1,k2,two,hls⟩:∃l1 l2 o,Ev (x1,x2) (s1,s2)=((l1,l2),o):=⟨_,_,_,rfl⟩;have Ze:=I hls;have Hc:=I (show jM g ⟨1,rX,Z,rr,(Ei,D6),rp⟩=((k1,k2),two)by
  unfold jM eL Pz;simp only;rw[LC,show q-1=u by omega,Tf,F5.o,hls])
 have OY:=I (show aS g ⟨1,rX,Z,rr,(Ei,D6),rp⟩=(Z.map C5).set u (k1,k2)by
  unfold aS Pz;simp only;rw[Hc.o,LC,show q-1=u by omega])
 have HUL:=I (show u<JL (Z.map C5) by rw[LC];omega)
 have O9:=I (show fD true g ⟨1,rX,Z,rr,(Ei,D6),rp⟩=if two=true then 1 else 3 by
  unfold fD;rw[f7 j7,f7 j7,Lx.o,Hc.o];simp;intro h;omega)
 have e0':=GV.o6 e0;have Ua:=GV.o6 e1;have p0:=(JZ.trans GV).o6 I9.o;have hc10:=HO.rats.r8;have hm10:=HO.rats.r9;have hsr:=HSR.o;have hwcs:=GV.size;clear hls Tf hu LC FT hT;go_upto_region 15 with fail
 go_cut [10,11] (λsx so wx=>∃gb:Nat,sx=aP (some ⟨gb,0,none⟩)/\so=bl two/\b9 (ah wr wx gb k1 k2))
 case first =>
  have o7:=C7.drew wr;have D0:C7 wr (wr.alloc (QD #[.int .i64 0,.int .i64 0] 56)).drew:=WU.trans cn;have o8:=I (λ(w':J) (h:C7 wr w')=>(an (h.o6 RD) (an (h.o6 Sx) (an (h.o6 m1) (an (h.o6 p0) (an (h.o6 e0') (an (h.o6 Ua) h)))))))
  go_region_held3 (λw'=>w'.cell? ⟨H,u*2,none⟩=some (.int .i64 x1)/\w'.cell? ⟨H,u*2+1,none⟩=some (.int .i64 x2)/\w'.cell? ⟨b8,1,none⟩=some (GI (some ⟨H,0,none⟩) n1 p1)/\w'.cell? ⟨w,0,none⟩=some (.int .i64 p)/\w'.cell? ⟨g6,0,none⟩=some (.int .i64 s1)/\w'.cell? ⟨g6,1,none⟩=some (.int .i64 s2)/\C7 wr w')
   (exact Hz)
   (first
     | ((with_reducible refine(iZ _ _ _ _ _).mono ?_)
        rw[Ze.o];rintro e w14 ⟨rfl,Gv⟩
        first|(with_reducible have A1:=ah.grow A1 Gv)|(with_reducible have A1:=ah.DS Gv)|(with_reducible have A1:=ah.DX o7 Gv)|skip
        first|(have IX:=A1.c0;have IW:=A1.c1;have Kf:=A1.free)|skip
        have o7:C7 wr w14:=Y6;have FB:=o7.size))
  all_goals(exact Jm)
 obtain⟨gb,rfl,rfl,HB⟩:=hcut;have XD:=(JZ.trans GV).trans HB.ext;have HXD:=I XD;have f0:=HB.c0;have f1:=HB.c1;have p0':=HB.ext.o6 p0;have Ec:=I (HO.ext HB.ext);have H7:=I (HB.ext.blk Jv);have⟨n0,n2,n3,nf⟩:=fL H7.o;have hwcs2:=HB.ext.size;clear RD Sx e0' Ua p0 m0 m1 m2 mf WE e0 e1 XC;cases two
 ·have HC:=I (show fD true g ⟨1,rX,Z,rr,(Ei,D6),rp⟩=3 by rw[O9.o];rfl);have⟨q0,q1,q2,qf⟩:=KV.o wc XD;have⟨z,z0,z1,z2,zo⟩:=Fi.o wc XD 3 (GI none 0 0) (GI none 0 0);have qq0:=@O5;exact Ul
 have HC:=I (show fD true g ⟨1,rX,Z,rr,(Ei,D6),rp⟩=1 by rw[O9.o];rfl);have⟨gp,hgp,hgb2,WE,hgl2⟩:=Ec.block LB;simp only[bq,H4,E5]at hgp;subst hgp;obtain⟨y3,y4,y5,y6,YH,_,hyc,hyd⟩:=Ec.rats.at LB;simp only[bq,H4,E5]at YH;obtain⟨rfl,rfl⟩:=YH;rw[hI]at hyc hyd;have LI:=I (Ec.set HUL.o k1 k2);have hxb8:H≠b8:=j0;have PY:=I (show((wc.setCell ⟨H,u*2,none⟩ (.int .i64 k1)).setCell ⟨H,u*2+1,none⟩ (.int .i64 k2)).heap[b8]?=some (QD #[.int .i64 1,GI (some ⟨H,0,none⟩) n1 p1,GI none 0 0] 71 (0,0))from
  ((GE _ _ _ _ (by show b8≠H;omega)).trans (GE _ _ _ _ (by show b8≠H;omega))).trans H7)
 have hwg:W.heap.size<=H:=by have:=JZ.size;have:=QU.o;omega
 have XP:C7 W ((wc.setCell ⟨H,u*2,none⟩ (.int .i64 k1)).setCell ⟨H,u*2+1,none⟩ (.int .i64 k2)):=(XD.setCell (p:=⟨H,u*2,none⟩) hwg _).setCell (p:=⟨H,u*2+1,none⟩) hwg _;have⟨wp,hwp⟩:=e9 ((wc.setCell ⟨H,u*2,none⟩ (.int .i64 k1)).setCell ⟨H,u*2+1,none⟩ (.int .i64 k2));rw[<-hwp]at LI XP PY;rw[<-OY.o]at LI;go_upto_region 19 with fail;rw[<-hwp];clear hwp hyc hyd WE f0 f1 XD n0 n2 n3 nf;have⟨n0,n2,n3,nf⟩:=fL PY.o;have⟨q0,q1,q2,qf⟩:=KV.o wp XP;have⟨z,z0,z1,z2,zo⟩:=Fi.o wp XP 1 (GI (some ⟨H,0,none⟩) n1 p1) (GI none 0 0);have HZ:=I z;have Ou:=I zo;clear z zo;go_wp2;refine Fn (v:=.agg #[.int .i64 1,GI (some ⟨H,0,none⟩) n1 p1,GI none 0 0]) (by simp[results,O5,go_sem,z0,z1,z2]) rfl ⟨⟨_,_,_,_,_,_,by rw[HC.o],λ_=>(LI.mono (by have:=JZ.size;have:=QU.o;omega)).keep λk hk=>Ou.o k (by have:=(LI.lt k hk).1;have:=JZ.size;have:=QU.o;omega)⟩,HZ⟩
