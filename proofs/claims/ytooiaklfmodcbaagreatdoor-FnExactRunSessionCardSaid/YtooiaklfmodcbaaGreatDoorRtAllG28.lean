import Derived.Test.YtooiaklfmodcbaaGreatDoorRtAllG25
import Derived.Lib.SliceRun
set_option linter.all false
set_option maxHeartbeats 6000000
set_option maxRecDepth 100000
namespace Go.Proofs.YtooiaklfmodcbaaGreatDoor
open Ending renaming returned->ar
open List renaming length->JL
open Obj renaming cells->QD
open Value renaming slice->GI,bool->bl,string->aE,pointer->aP
open Go.Proofs.Tryz Go.RowKit
section
def aT{P:Prop}(h:P:=by simp only;omega):P:=h
def ly{P:Prop}(h:P:=by rw[DW.o];omega):P:=h
def Qw{P:Prop}(h:P:=by simp[results,results107,go_sem,Eb,Eh,FZ]<;>rfl):P:=h
def K'{P:Prop}(h:P:=by simp only;rw[kr];simp):P:=h
variable{l M:o3}{k n fn IV i base g:Nat}{s:Int}{w:J}{a fa:l9}{L:k9}{fid:FuncId}{ca:Array arQ}
def Gw(l:k9)(s:Int):Bool:=l.any λf=>f.1 == s
theorem Cl{l:k9}(h:k<JL l):Gw (l.take (k+1)) s=(Gw (l.take k) s||(l[k]?.getD (0,0,0)).1 == s):=by
 rw[jY h];simp[Gw]
theorem Rq{l:k9}(h:k<JL l)(e:(l[k]?.getD (0,0,0)).1=s):Gw l s=true:=by
 unfold Gw;rw[i'];exact⟨l[k],eN h,by rw[Id h]at e;simpa using e⟩
theorem qC{cap:Nat}{l:k9}(h:GC w a n cap l)(s:Int):
 Calls prog 183 #[GI a n cap,U s] w λe w'=>e=ar (bl (Gw l s))/\w=w':=by
 have⟨r8,r9⟩:=h.aq9;have HL:=I h.hlen;have H:=I h;clear h;go_in
 go_wp2
 go_loop [5] (λG=>∃k:Nat,k<=n/\G=U k/\b9 (Gw (l.take k) s=false)) (λG=>n-(intOf G).toNat)
 ·exact⟨0,gi _,rfl,I rfl⟩
 obtain⟨k,hk,rfl,HA⟩:=hrel;by_cases hlt:k<n
 ·obtain⟨b,off,x,y,z,rfl,hx,hc,Eu,GU⟩:=H.at hlt;by_cases E:x=s
  ·have HT:=I (Rq (l:=l) (k:=k) (s:=s) JO (by rw[hx];exact E));subst E;clear hx;go_wp2;go_ret;exact⟨ag HT.symm,rfl⟩
  have QY:(x == s)=false:=by simpa using E
  have HT:=I (show Gw (l.take (k+1)) s=false by rw[Cl JO,HA.o,hx];simpa using E);clear hx;go_wp2
  go_round
  case rel=>exact⟨k+1,by omega,by go_num,HT⟩
  exact sw
 have HT:b9 (l.take k=l):=bR Ym;exact Zb
def bC(L:k9)(m:Nat):o3:=(EK 1 m).filter λs=>!Gw L s
theorem Az(L:k9)(m:Nat):bC L (m+1)=bC L m++(if Gw L ((m:Int)+1)=true then [] else [(m:Int)+1]):=by
 unfold bC EK;rw[rN,sr,dr];congr 1;rw[TQ,show(1:Int)+(m:Int)=(m:Int)+1 by omega];simp only[cB,List.filter_nil];cases Gw L ((m:Int)+1)<;>rfl
theorem eG(L:k9)(m:Nat):JL (bC L m)<=m:=by
 unfold bC;exact fy (W5 _ _) (by simp[EK])
theorem kV{m:Nat}(h:s∈bC L m):1<=s/\s<=m/\Gw L s=false:=by
 unfold bC EK at h;simp only[L1,C',sj,gr]at h;obtain⟨⟨i,hi,rfl⟩,E⟩:=h;exact⟨by omega,by omega,E⟩
theorem ot(x:Int)(a:l9)(n cap:Nat)(hn:n<=1000)(h:GC w fa fn IV L):
 Calls prog 108 #[FS x a n cap,GI fa fn IV] w λe w'=>(∃v,e=ar v/\r' w' w v (bC L (n-2)))/\C7 w w':=by
 have⟨m,Z⟩:=GT (n-2);refine t8 h (C7.alloc w (QD #[U x,GI a n cap] 31)) (r'.D2 (w.alloc (QD #[U x,GI a n cap] 31)) (w+1) (w+1) j7 j7) λHF A8 HO=>?_;rw[<-Z.o];clear h;go_in
 go_wp2
 go_loopg [5,6] m (λgk oo ii wr=>∃(k:Nat) (H:l9) (G E:Nat),b9 (gk+k=m)/\ii=U ((k:Int)+1)/\oo=GI H G E/\b9 (r' wr (w+1) (GI H G E) (bC L k))/\b9 (C7 (w.alloc (QD #[U x,GI a n cap] 31)) wr))
 ·exact⟨0,_,_,_,I j0,by simp,rfl,HO,I WU⟩
 obtain⟨k,H,G,E,HK,rfl,rfl,HO1,A0⟩:=hrel;have hsz:=A0.size;rw[O6]at hsz;have hc:wr.cell? (O w 1)=some (GI a n cap):=A0.o6 j7;have Iq:k<=m:=k8 HK.o;have hm1000:m<=1000:=k8 Z.o;by_cases hlt:k<m
 ·have FT:(k:Int)+1<(n:Int)-1:=by have:=Z.o;omega
  refine t8 (eG L k) (qC ((HF.ext A8).ext A0) ((k:Int)+1)) (Az L k) λHL HC K=>?_;cases hb:Gw L ((k:Int)+1)
  ·rw[hb]at HC K;clear hb
   go_wp2_with (first
    | (go_at_call 183;refine cP HC ?_)
    | (at_builtin;refine Ub ((k:Int)+1) HO1 A0 (k8 HL.o) λa5 n5 p5 w5 It X5 DT=>?_))
   refine er ?_;exact⟨k+1,a5,n5,p5,I (k8 HK.o),by go_num,rfl,I (by have:=DT.o;rw[K.o];exact this),X5⟩
  rw[hb]at HC K;clear hb
  go_wp2_with (first
   | (go_at_call 183;refine cP HC ?_))
  refine er ?_;exact⟨k+1,H,G,E,I (k8 HK.o),by go_num,rfl,I (by have:=HO1.o;rw[K.o];simpa using this),A0⟩
 have DV:k=m:=k8 HK.o;have hnlt:¬(k:Int)+1<(n:Int)-1:=k8 Z.o;subst DV;exact JG
structure y5(p:Int->Bool)(l M:o3)(i j:Nat):Prop where
 len:M.length=l.length
 le:i<=j
 jl:j<=l.length
 lo:M.take i=(l.take j).filter λx=>!p x
 hi:∀k,j<=k->M[k]?.getD 0=l[k]?.getD 0
theorem y5.drop{p:Int->Bool}{j:Nat}(h:y5 p l M i j)(G:j<JL l)(E:p (l[j]?.getD 0)=true):y5 p l M i (j+1) :=
 ⟨h.len,by have:=h.le;omega,by omega,by rw[cW G,dr,<-h.lo];simp[E],λk hk=>h.hi k j0⟩
theorem y5.keep{p:Int->Bool}{j:Nat}(h:y5 p l M i j)(G:j<JL l)(E:p (l[j]?.getD 0)=false):y5 p l (M.set i (l[j]?.getD 0)) (i+1) (j+1):=by
 have hi:i<JL M:=by have:=h.le;have:=h.len;omega
 refine⟨by rw[k7];exact h.len,by have:=h.le;omega,by omega,?_,λk hk=>?_⟩
 ·rw[cW G,dr,<-h.lo,xl (by rw[k7];exact hi),nm (i8 _),List.getElem_set_self];simp[E]
 have:=h.le;rw[sq j0];exact h.hi k j0
theorem y5.start{p:Int->Bool}(hi:i<JL l)(G:(l.take i).all (λx=>!p x)=true)(E:p (l[i]?.getD 0)=true):y5 p l l i (i+1):=by
 refine⟨rfl,by omega,by omega,?_,λ_ _=>rfl⟩;rw[cW hi,dr];have:(l.take i).filter (λx=>!p x)=l.take i:=List.filter_eq_self.2 λx hx=>gy.1 G x hx
 rw[this];simp[E]
theorem r'.zeros{cap:Nat}:∀(m:Nat) {o:Nat} {w:J} {M:o3},r' w base (EQ g n cap) M->∃M',r' (w.setCells g o (List.replicate m (U 0))) base (EQ g n cap) M'/\M'.take o=M.take o
 | 0,_,_,M,h=>⟨M,h,rfl⟩
 | m+1,o,w,M,h=>by
   have⟨M',H,G⟩:=r'.zeros m (o:=o+1) (h.set o 0);refine⟨M',H,?_⟩;have E:=If (List.take o) G;rw[Y5,Y5,ub j0]at E;rw[E,nm (i8 _)]
theorem r'.UF{cap:Nat}(h:r' w base (EQ g n cap) M)(Q:k<=n):r' w base (EQ g k cap) (M.take k):=by
 rcases h.2 with⟨E,h0⟩|⟨g',cap',G,E,hb,hg,h1,Z,hs,K⟩
 ·cases E
 simp only[nP,bq,H4,E5]at E;obtain⟨rfl,rfl,rfl⟩:=E;have H:JL (M.take k)=k:=m9;refine⟨by simp,.inr ⟨g,cap,G,by rw[H],hb,hg,by omega,Z,hs,?_⟩⟩;rw[H,Oz,<-K,Y5,Nat.mul_one,Nat.mul_one,ub Q]
theorem r'.GG{cap:Nat}(h:r' w base (EQ g n cap) l):base<=g/\g<w.heap.size/\(∀j,w.frozen? (O g j)=false)/\∀k,k<n->w.cell? (O g k)=some (U (l[k]?.getD 0)):=by
 rcases h.2 with⟨E,h0⟩|⟨g',cap',G,E,hb,hg,h1,h2,hs,ht⟩
 ·cases E
 have K:g'=g:=by simp only[nP,bq,H4,E5]at E;exact E.1.symm
 subst K;refine⟨hb,In hg,λj=>mo w g' j G _ hg,λk H=>?_⟩;have⟨b,off,e,hc⟩:=h.ints.at H;simp only[bq,H4,E5]at e;rw[<-e.1,<-e.2,hI]at hc;exact hc
theorem iB{B:Nat}{a:J}(b:Nat)(hb:B<=b):∀(E:List arQ) (o:Nat) {w:J},Below B a w->Below B a (w.setCells b o E)
 | [],_,_,h=>h
 | v::r,o,w,h=>iB b hb r (o+1) (h.setCell hb v)
theorem Ur(w:J):(zeroValue 3).run prog w=.ok (U 0) w:=rfl
theorem wI{W0:J}{cap:Nat}{p:Int->Bool}(hX:C7 W0 w)(hb:W0.heap.size<=base)(h:r' w base (EQ g n cap) l)(hn:0<n)(hg:NE prog fid)(hf:M8 prog W0 fid ca p):
 Calls prog 208 #[EQ g n cap,.func (.func fid) #[] ca] w λe w' =>
  (∃m,e=ar (EQ g m cap)/\r' w' base (EQ g m cap) (l.filter λx=>!p x))/\C7 W0 w':=by
 have⟨r8,r9⟩:=h.ints.aq9;have Tr:∀(args:Array arQ) (w:J),(callFunc fid args).run prog w=.ok (.enter fid args) w:=hg;have HL:=I h.ints.hlen;have HO:=I h;have YW:=h.GG.1;refine Op YW hf hX (lO (w:=w) h.ints hg (hf.ext hX)) λHBG HF HX Z=>?_;clear h hf hX hg YW;by_cases E:∃i,l.findIdx? p=some i
 ·obtain⟨i0,hi0⟩:=E;have H:dg p l=(i0:Int):=by unfold dg;rw[hi0]
  have⟨Jr,hip,hia⟩:=Tp.1 hi0;have D7:i0<n:=by rw[<-HL.o];exact Jr
  have ES:(l.take i0).all (λx=>!p x)=true:=by
   rw[gy];intro x hx;obtain⟨j,hj,rfl⟩:=Py.1 hx;have:=hia j j0
   simpa using this
  have Jp:=I (y5.start (p:=p) Jr ES (by rw[Id Jr];exact hip));rw[H]at Z;clear H hi0 hip hia ES Jr;go_in
  go_wp2_with fail;refine i7 Z λw1 A'=>?_;have A0:=I (HX.trans A');have HO1:=I (HO.ext A');have hne:((i0:Int) == -1)=false:=j7;go_wp2
  go_loopg [5,6] n (λgk ii jj wr=>∃(i j:Nat) (M:o3),b9 (gk+j=n+i0+1)/\ii=U i/\jj=U j/\b9 (y5 p l M i j)/\b9 (i<j)/\b9 (r' wr base (EQ g n cap) M)/\b9 (C7 W0 wr))
  ·exact⟨i0,i0+1,l,I j0,rfl,by simp,Jp,I j0,HO1,A0⟩
  obtain⟨i,j,M,HJ,rfl,rfl,HK,HIJ,HM,C0⟩:=hrel;have Q9:=HIJ.o;by_cases hlt:j<n
  ·have hc:=HM.GG.2.2.2 j hlt;rw[HK.hi j (i8 _)]at hc;have⟨x,Ir⟩:=GT (l[j]?.getD 0);rw[<-Ir.o]at hc;have HC:=I (HF x wr C0);have F0:j<JL l:=by rw[HL.o];exact hlt
   cases G:p x
   ·have K:=I (HK.keep F0 (by rw[<-Ir.o];exact G));rw[<-Ir.o]at K;rw[G]at HC;clear G;go_wp2_with fail;refine i7 HC λw2 C4=>?_;have O1:=I (HM.ext C4);have hci:=O1.GG.2.2.2 i j0;have JW:=O1.GG.2.2.1;have hfi:=JW i;have J0:=I (O1.set i x);have B7:=I ((C0.trans C4).store i (fy hb HBG) (U x));clear JW;go_wp2_with fail;refine vE ?_;exact⟨i+1,j+1,_,I (k8 HJ.o),by go_num,by go_num,K,I j0,J0,B7⟩
   have K:=I (HK.drop F0 (by rw[<-Ir.o];exact G));rw[G]at HC;clear G;go_wp2_with fail;refine i7 HC λw2 C4=>?_;have O1:=I (HM.ext C4);have B7:=I (C0.trans C4);go_wp2_with fail;refine vE ?_;exact⟨i,j+1,_,I (k8 HJ.o),rfl,by go_num,K,I j0,O1,B7⟩
  have Ii:j=n:=by have:=HK.jl;have:=HL.o;omega
  subst Ii;have LF:∀ty,(Builtin.clear_ #[29] ty #[GI (some (O g i)) (j-i) (cap-i)]).run prog wr=.ok (.tuple #[]) (wr.setCells g i (List.replicate (j-i) (U 0))):=λty=>by
   refine Lib.run_clear_slice wr _ 3 ty _ V2 Ur rfl rfl g i _ _ j0 (λk hk=>?_) (λk hk=>?_)
   ·rw[HM.GG.2.2.2 (i+k) j0];rfl
   exact HM.GG.2.2.1 _
  have⟨M',hM',WY⟩:=r'.zeros (w:=wr) (j-i) (o:=i) HM.o;have HT:=I (show M'.take i=l.filter λx=>!p x by
   rw[WY,HK.lo,bR b6])
  have HMF:=I hM';have HXF:=I (iB g (fy hb HBG) (List.replicate (j-i) (U 0)) i C0);clear WY hM';go_wp2;go_ret;exact⟨⟨i,rfl,by rw[<-HT.o];exact HMF.UF j0⟩,HXF⟩
 have H:dg p l=-1:=by
  unfold dg;cases hq:l.findIdx? p with
  | none=>rfl
  | some i=>exact absurd ⟨i,hq⟩ E
 have Zk:=I (show l.filter (λx=>!p x)=l by
  rw[List.filter_eq_self];intro x hx;cases hq:l.findIdx? p with
  | none=>have:=nv.1 hq x hx;simpa using this
  | some i=>exact absurd ⟨i,hq⟩ E)
 rw[H]at Z;clear H E;go_in
 go_wp2_with fail;refine i7 Z λw1 A'=>?_;have A0:=I (HX.trans A');have HO1:=I (HO.ext A');go_wp2;go_ret;exact⟨⟨n,rfl,by rw[Zk.o];exact HO1⟩,A0⟩
def OD(P:Program)(w:J)(fid:FuncId)(ca:Array arQ)(p:Int×Int×Int->Bool):Prop :=
 ∀x y z (w1:J),C7 w w1->Calls P fid (#[.agg #[U x,U y,U z]]++ca) w1 λe w2=>e=ar (bl (p (x,y,z)))/\C7 w1 w2
theorem tm{cap:Nat}{l:k9}{p:Int×Int×Int->Bool}(h:GC w a n cap l)(hg:NE prog fid)(Z:OD prog w fid ca p):
 f8 280 #[GI a n cap,.func (.func fid) #[] ca] w (U (dg p l)):=by
 have⟨hn,hm⟩:=h.aq9;have Tr:∀(args:Array arQ) (w:J),(callFunc fid args).run prog w=.ok (.enter fid args) w:=hg;refine t8 h.hlen h Z λHL HI aa=>?_;clear h Z hg;unfold f8;go_in
 go_wp2
 go_loopg [8] n (λgk ii wr=>∃k:Nat,b9 (gk+k=n)/\ii=U k/\b9 ((l.take k).all (λx=>!p x)=true)/\b9 (C7 w wr))
 ·exact N0
 obtain⟨k,HK,rfl,K,A8⟩:=hrel;by_cases E:k<n
 ·obtain⟨b,off,x,y,z,rfl,G,D1,Eu,GU⟩:=(HI.ext A8).at E;have H:=I (aa x y z wr A8);have Fe:k<JL l:=by rw[HL.o];exact E
  cases hb:p (x,y,z)
  all_goals rw[hb]at H
  ·have HN:=I (show(l.take (k+1)).all (λx=>!p x)=true by rw[jY Fe,tn,K.o,G];simp[hb]);clear hb G;go_wp2_with fail;refine i7 H λw1 hx=>?_;have X1:=I (A8.trans hx);go_wp2_with fail;refine er ?_;exact⟨k+1,I (k8 HK.o),by go_num,HN,X1⟩
  have HN:b9 (dg p l=(k:Int)):=fJ (d:=(0,0,0)) Fe K.o (by rw[G];exact hb);clear hb G;go_wp2_with fail;refine IR H λw1 hx=>?_;have qq0:=@au;exact o'
 have HN:b9 (l.take k=l):=bR o1;go_wp2;go_ret;exact⟨au (by rw[eD];have:=K.o;rwa [HN.o]at this),A8⟩
theorem oX{cap:Nat}{l:k9}{p:Int×Int×Int->Bool}(h:GC w a n cap l)(hg:NE prog fid)(E:OD prog w fid ca p):
 f8 210 #[GI a n cap,.func (.func fid) #[] ca] w (bl (l.any p)):=by
 have HC:=I (tm h hg E);exact YQ
theorem Ck:NE prog 211:=cR func211 j8 j8
theorem Xc:NE prog 209:=cR func209 j8 j8
theorem VS(x y z s:Int){b:Nat}(hc:w.cell? (O b 0)=some (U s)):
 f8 211 #[.agg #[U x,U y,U z],aP (some (O b 0))] w (bl (x == s)):=by
 have E:=I (C7.alloc w (QD #[U x,U y,U z] 115));have hb:b<w.heap.size:=O4 _ _ hc;cases hq:(x == s)
 all_goals
  unfold f8;go_in
  go_wp2;go_ret;exact⟨ag rfl,E⟩
theorem Z9(s:Int){b:Nat}{cap:Nat}(hc:w.cell? (O b 0)=some (GI a n cap))(h:GC w a n cap L):
 f8 209 #[U s,aP (some (O b 0))] w (bl (Gw L s)):=by
 have X2:=I (C7.alloc w (QD #[U s] 3));have hb:b<w.heap.size:=O4 _ _ hc;have G:=I (oX (ca:=#[aP (some (O w 0))]) (p:=λf=>f.1 == s) (h.ext X2) Ck (λx y z w1 E=>VS x y z s (E.o6 j7)));clear h;unfold f8;go_in
 go_wp2_with fail;refine IR G λw2 hx=>?_;exact P3
theorem kA(x:Int)(a:l9)(n cap:Nat)(h4:3<=n)(hn:n<=1000)(h:GC w fa fn IV L):
 Calls prog 135 #[FS x a n cap,GI fa fn IV] w λe w'=>(∃v,e=ar v/\r' w' w v (bC L (n-2)))/\C7 w w':=by
 have⟨W,E⟩:=e9 ((w.alloc (QD #[U x,GI a n cap] 31)).alloc (QD #[GI fa fn IV] 65));refine t8 (show W.heap.size=w.heap.size+2 by rw[E];simp) (show C7 w W by rw[E];exact WU.trans WU) (show W.cell? (O (w+1) 0)=some (GI fa fn IV)by rw[E];simp) λDW Z G=>?_;have HF:=I (h.ext Z);have HA:b9 (M8 prog W 209 #[aP (some (O (w+1) 0))] (Gw L)):=I λs w1 hx=>Z9 s (hx.o6 G) (HF.ext hx);have K:=I (kx (w:=W) 1 ((n:Int)-2) (n-2) j0 j0 j0 j0);rw[E]at K;clear h;go_in
 go_wp2_with fail;refine K.mono ?_;rw[<-E];clear E;rintro e w1 ⟨⟨v,rfl,ho⟩,A'⟩;obtain⟨a1,m,c1,rfl,hm⟩:=ho.var;have H:0<m:=by have:=hm.out;rw[xX]at this;omega
 obtain⟨g,rfl,_,_,_⟩:=ho.block H;have HD:=I (wI A' (i8 _) ho H Xc HA);clear ho hm A';go_wp2_with fail;refine PP HD λw2 m2 Q C0=>?_;have Ec:=I Q;clear Q;go_wp2;go_ret;exact⟨⟨_,rfl,Ec.mono ly⟩,Z.trans C0.o⟩
theorem rR{n d:Int}(h:(aN n d).2=false):(aN n d).1=(0,0):=by
 have hc:∀p,(Gk p).2=false->(Gk p).1=(0,0):=λp h=>by unfold Gk at h⊢;split at h<;>simp_all
 unfold aN at h⊢;split at h
 ·next h1=>rw[f9 h1]
 next h1 =>
 rw[f7 h1];split at h
 ·next h2=>rw[f9 h2];exact hc _ h
 next h2=>rw[f7 h2];exact hc _ h
theorem CZ(n d:Int):-1000000000<=(aN n d).1.1/\(aN n d).1.1<=1000000000:=by
 cases h:(aN n d).2
 ·rw[rR h];simp
 have:=aU (jy h);omega
theorem yj(a b:o4):-1000000000<=(D9 a b).1.1/\(D9 a b).1.1<=1000000000:=by
 unfold D9;split
 ·exact CZ _ _
 simp
abbrev TU:=Int×Int×Bool×Int×Int
def NT:mg TU:=⟨λx=>[U x.1,U x.2.1,bl x.2.2.1,U x.2.2.2.1,U x.2.2.2.2],5,λ_=>rfl,by omega,λx u h=>by simp only[SU,Wu,Oi]at h;rcases h with rfl|rfl|rfl|rfl|rfl<;>rfl⟩
theorem Tryz.Sw:(prog.info? 160).map (λi=>(i.zero,i.size,i.bytes))=some (some (.agg #[U 0,U 0,bl false,U 0,U 0]),5,40):=by kernel_rfl
def ik(V:o3)(f:Int×Int×Int):o4:=(D9 f.2 (V[f.1.toNat]?.getD 0,1)).1
def GX(s:Int)(c:o4):List TU:=[(s,1,false,c.1,c.2),(s,-1,false,-c.1,c.2)]
def bS(V:o3)(l:o3):List TU:=l.map λs=>(s,1,true,-(V[s.toNat]?.getD 0),1)
def aX(V:o3)(L:k9):List TU:=L.flatMap λf=>GX f.1 (ik V f)
def dX(V:o3)(L:k9):List TU:=bS V (bC L (JL V-2))++aX V L++GX ((JL V:Int)-1) (-(V[JL V-1]?.getD 0),1)
def gN(V:o3)(L:k9)(k:Nat):List TU:=bS V (bC L (JL V-2))++aX V (L.take k)
theorem pu(V:o3)(h:k<JL l):bS V (l.take k)++[(l[k]?.getD 0,1,true,-(V[(l[k]?.getD 0).toNat]?.getD 0),1)]=bS V (l.take (k+1)):=by
 rw[cW h];simp[bS]
theorem el(V:o3)(l:o3):JL (bS V l)=JL l:=by simp[bS]
theorem fM(V:o3):∀L:k9,JL (aX V L)=2*JL L
 | []=>rfl
 | f::L=>by
   have:=fM V L;simp only[aX,TO,SW,GX,nR,Pb]at this⊢;omega
theorem Ao(V:o3)(h:k<JL L){f:Int×Int×Int}(e:L[k]?.getD (0,0,0)=f):gN V L k++GX f.1 (ik V f)=gN V L (k+1):=by
 subst e;unfold gN aX;rw[jY h];simp
theorem r'.ad7{w':J}{base':Nat}{v H:arQ}{α:Type}{E:mg α}{t:TypeId}{Q:List α}(h:r' w base v l)(Z:A5 E t w base' H Q)(G:3≠t)(hg:w.grownBy w' H.ownBlock):r' w' base v l :=
 h.keep λk K=>hg.block k (h.lt k K).2 λe=>aL G h Z k K e.symm
theorem xP(x:Int){cap:Nat}{V:o3}(hV:d9 w a n cap V)(Mx:∀y∈V,-500<=y/\y<=500)(h2:2<=n)(hn:n<=1000)(h:GC w fa fn IV L)(hL:∀f∈L,1<=f.1/\f.1+2<=n)(hfn:fn<=1048576):
 Calls prog 182 #[FS x a n cap,GI fa fn IV] w λe w'=>(∃v,e=ar v/\A5 NT 160 w' w v (dX V L))/\C7 w w':=by
 have⟨W,hW⟩:=e9 (w.alloc (QD #[.int .i64 x,GI a n cap] 31));refine z6 hW (show W.heap.size=w.heap.size+1 by rw[hW];simp) (show C7 w W by rw[hW];exact WU) (show W.cell? ⟨w,1,none⟩=some (GI a n cap)by rw[hW];simp) (show W.cell? ⟨w,0,none⟩=some (.int .i64 x)by rw[hW];simp) hV.hlen λHW DW A8 NZ M3 HVL=>?_;have ND:=hV.r8;have NC:=hV.r9;have WI:=h.r8;have WH:=h.r9;refine z6 (hV.ext A8) Mx h.hlen (h.ext A8) hL (A5.D2 NT 160 W (w+1) (w+1) DW.symm (by rw[DW.o];exact i8 _)) λHV IG GK HF FN HO=>?_;refine t8 (ot (w:=W.alloc (QD #[] 160)) x a n cap hn (HF.ext WU)) (eG L (n-2)) (λs=>kV (L:=L) (m:=n-2) (s:=s)) λTP HML KW=>?_;rw[hW]at TP;clear h hL hV Mx;go_in
 go_wp2_with fail;refine TP.mono ?_;rw[<-hW];clear hW;rintro e w1 ⟨⟨vf,rfl,Z⟩,A'⟩;obtain⟨af,m,cf,rfl,hfm⟩:=Z.var;refine Op (Z.mono (base':=w.heap.size+1) (by rw[O6,DW.o];omega)) hfm.out ((C7.alloc W _).trans A') (HO.ext A') λHFO Qg X1 aa=>?_;have Ww:=Z.ints.r8;have Wv:=Z.ints.r9;have hmb:m<=1000:=by have:=HML.o;have:=Qg.o;omega
 clear Z A' hfm;go_wp2
 go_loopg [5,7] m (λgk oo ii wr=>∃(k:Nat) (a1:l9) (n1 p1:Nat),b9 (gk+k=m)/\ii=.int .i64 (k:Int)/\oo=GI a1 n1 p1/\b9 (A5 NT 160 wr (w+1) (GI a1 n1 p1) (bS V ((bC L (n-2)).take k)))/\b9 (r' wr (w+1) (GI af m cf) (bC L (n-2)))/\b9 (C7 W wr))
 ·exact⟨0,_,_,_,I j0,rfl,rfl,aa,HFO,X1⟩
 rename Nat=>g1;rename J=>y9;obtain⟨k,a1,n1,p1,HK,rfl,rfl,Fs,Ro,HX⟩:=hrel;have hsz:=HX.size;rw[DW.o]at hsz;have hcv:y9.cell? ⟨w,1,none⟩=some (GI a n cap):=HX.o6 NZ.o;by_cases hlt:k<m
 ·have⟨b,off,he,Q6⟩:=Ro.ints.at hlt;subst he;have⟨s,hs⟩:=e9 ((bC L (n-2))[k]?.getD 0);rw[<-hs]at Q6;have Fe:k<JL (bC L (n-2)):=by rw[Qg.o];exact hlt
  have hsm:=KW.o s (by rw[hs,Id Fe];exact eN Fe);obtain⟨t,rfl⟩:∃t:Nat,s=t:=⟨s.toNat,by omega⟩;have Wb:t<n:=j0;have⟨vb,G,Q2,MJ⟩:=HV.at Wb;subst Q2;have Na:=dp IG.o t;have⟨y,hy⟩:=e9 (V[t]?.getD 0);rw[<-hy]at MJ Na;have HVC:=I MJ;replace MJ:=HX.o6 MJ;have F9:=I (show bS V ((bC L (n-2)).take k)++[((t:Int),1,true,-y,1)]=bS V ((bC L (n-2)).take (k+1))by
   rw[<-pu V Fe,<-hs,hy];rfl)
  have Pd:=dk (-y);have S2:=I (show(bS V ((bC L (n-2)).take k)).length<=1000 by rw[el,k6];have:=HML.o;omega);have o7:=C7.drew y9;clear hs hsm hy Fe;have N9:b9 (some b≠(GI a1 n1 p1).ownBlock):=I λe=>aL Fd Ro.o Fs.o b rfl e.symm;have Gj:C7 W y9:=HX.o;have o8:=I (λ(w':J) (h:C7 W w') (hc:w'.cell? ⟨b,off+k,none⟩=some (.int .i64 (t:Int)))=>(⟨h.o6 NZ.o,hc,h.o6 HVC.o,h⟩:w'.cell? ⟨w,1,none⟩=some (GI (some ⟨vb,G,none⟩) n cap)/\w'.cell? ⟨b,off+k,none⟩=some (.int .i64 (t:Int))/\w'.cell? ⟨vb,G+t,none⟩=some (.int .i64 y)/\C7 W w'));go_wp2_with fail
  go_region_held3 (λw'=>w'.cell? ⟨w,1,none⟩=some (GI (some ⟨vb,G,none⟩) n cap)/\w'.cell? ⟨b,off+k,none⟩=some (.int .i64 (t:Int))/\w'.cell? ⟨vb,G+t,none⟩=some (.int .i64 y)/\C7 W w')
   (first
     | with_reducible exact o8.o _ (Gj.trans o7) (o7.o6 Q6)
     | with_reducible exact o8.o _ (Gj.trans (o7.trans WU)) ((o7.trans WU).o6 Q6)
     | with_reducible exact o8.o _ X5.o HC5.o)
   (first
     | ((with_reducible refine(cL _ _).mono ?_)
        rintro e w3 ⟨rfl,B5⟩;have o7:C7 y9 w3:=o7.trans B5;have J8:=o7.size)
     | (refine bU _ j9 ?_
        refine ib NT Tryz.Sw rfl Tryz.underlying157 Fd _ _ j9 (w+1) (GI a1 n1 p1) _ j9 (Fs.ext (o7.trans WU)) _ 1 1 [((t:Int),1,true,-y,1)] j9 (GL.lit NT _ _ _ 1 j9 _ j9 _ j9 j0) (k8 S2.o) m9 ?_;intro v5 w5 ho hg r7;have HFN:=I ((Ro.ext (o7.trans WU)).ad7 (Fs.ext (o7.trans WU)) Fd hg);have HC5:=I (hg.cell ((o7.trans WU).o6 Q6) N9);obtain⟨a5,n5,p5,rfl,It⟩:=ho.var;have DT:=I ho;have X5:=I (aj (w0:=W) (HX.trans (o7.trans WU)) hg (λj hj=>by have:=Fs.lt j hj;rw[DW.o];omega))
        clear ho hg r7))
  clear Gj;go_wp2_with fail;refine kf ?_;exact⟨k+1,a5,n5,p5,I (k8 HK.o),by go_num,rfl,I cd,HFN,X5⟩
 have Iq:k=m:=k8 HK.o;subst Iq;have F4:=I (show bS V ((bC L (n-2)).take k)=gN V L 0 by
  have:(bC L (n-2)).take k=bC L (n-2):=bR (by rw[Qg.o];exact i8 _)
  rw[this];unfold gN;rw[HVL.o];simp[aX])
 rw[F4.o]at Fs;have HCL:=I (λj=>show(gN V L j).length<=1000+2*fn by
  unfold gN;rw[SW,el,fM,k6,HVL.o];have:=HML.o;have:=GK.o;omega)
 clear Ro HK;go_wp2
 go_loopg [5,8] (fn+1) (λgk oo ii wr=>∃(k:Nat) (a1:l9) (n1 p1:Nat),b9 (gk+k=fn+1)/\ii=.int .i64 (k:Int)/\oo=GI a1 n1 p1/\b9 (A5 NT 160 wr (w+1) (GI a1 n1 p1) (if k<=fn then gN V L k else dX V L))/\b9 (C7 W wr))
 ·exact⟨0,_,_,_,I j0,rfl,rfl,I (by rw[f9 j0];exact Fs),HX⟩
 obtain⟨k,a2,n2,p2,HK,rfl,rfl,HO1,A0⟩:=hrel;have Iz:=A0.size;rw[DW.o]at Iz;have adP:wr.cell? ⟨w,1,none⟩=some (GI a n cap):=A0.o6 NZ.o;by_cases hle:k<=fn
 ·rw[f9 hle]at HO1;have⟨u,hu⟩:=e9 (n-1);have hnu:(n:Int)-1=(u:Int):=by omega
  have LB:u<n:=j0;have⟨vb,G,Q2,MJ⟩:=HV.at LB;subst Q2;have Na:=dp IG.o u;have⟨y,hy⟩:=e9 (V[u]?.getD 0);rw[<-hy]at MJ Na;have HVC:=I MJ;replace MJ:=A0.o6 MJ;have HU:=I hu;have HY:=I hy;have Pd:=dk (-y);clear hu hy;go_upto_if 59 with(go_at_call 97;refine IR (cL _ _) λw3 B5=>?_;have J8:=B5.size)
  have Ko:=I (ah.new B5 (-y) 1);have hcv3:=B5.o6 adP;go_cut [9,10] (λss cc wx=>∃(S:Int) (g:Nat) (p q:Int),ss=.int .i64 S/\cc=aP (some ⟨g,0,none⟩)/\b9 (ah wr wx g p q)/\b9 (gN V L k++GX S (p,q)=if k+1<=fn then gN V L (k+1) else dX V L)/\b9 (-1000000000<=p/\p<=1000000000))
  case first =>
   by_cases Ez:k<fn
   ·have⟨fb,NQ,c,fx,fy,hfa,hfe,Pk,Pj,T7⟩:=HF.at Ez;subst hfa;have Fe:k<JL L:=by rw[GK.o];exact Ez
    have K3:=FN.o (c,fx,fy) (by rw[<-hfe,Id Fe];exact eN Fe);simp only at K3;obtain⟨t,rfl⟩:∃t:Nat,c=t:=⟨c.toNat,by omega⟩;have Wb:t<n:=j0;have⟨S9,voff',Q2,RH⟩:=HV.at Wb;simp only[bq,H4,E5]at Q2;obtain⟨rfl,rfl⟩:=Q2;have⟨z,hz⟩:=e9 (V[t]?.getD 0);rw[<-hz]at RH;obtain⟨p,q,ok,D4⟩:∃p q ok,D9 (fx,fy) (z,1)=((p,q),ok):=⟨_,_,_,rfl⟩;have EJ:=I D4;have HPB:=I (show -1000000000<=p/\p<=1000000000 by have:=yj (fx,fy) (z,1);rw[D4]at this;exact this)
    have Rj:=I (show gN V L k++GX (t:Int) (p,q)=gN V L (k+1)by
     rw[<-Ao V Fe hfe];unfold ik;simp only;rw[show((t:Int)).toNat=t by simp,<-hz,D4])
    have XW:=I (A0.trans B5);replace Pk:=XW.o6 Pk;have kf1:=A0.o6 Pj;have kf2:=A0.o6 T7;have kvt:=A0.o6 RH;replace Pj:=XW.o6 Pj;replace T7:=XW.o6 T7;replace RH:=XW.o6 RH;have hfl:fb<w3.heap.size:=O4 _ _ Pk;have LR:vb<w3.heap.size:=O4 _ _ RH;have H:ah wr (w3.alloc (QD #[.int .i64 (-y),.int .i64 1] 56)).drew w3 (-y) 1:=Ko.grow cn;have o7:=H.ext;clear hfe Fe K3 hz D4 hnu MJ;have o8:=I λw' (h:C7 wr w')=>TX (h.o6 adP) (TX (h.o6 kf1) (TX (h.o6 kf2) (TX (h.o6 kvt) h)));clear kf1 kf2 kvt;go_wp2_with fail
    go_region_held3 (λw'=>w'.cell? ⟨w,1,none⟩=some (GI (some ⟨vb,G,none⟩) n cap)/\w'.cell? ⟨fb,NQ+k*3+1,none⟩=some (.int .i64 fx)/\w'.cell? ⟨fb,NQ+k*3+2,none⟩=some (.int .i64 fy)/\w'.cell? ⟨vb,G+t,none⟩=some (.int .i64 z)/\C7 wr w')
     (first
       | with_reducible exact o8.o _ o7
       | with_reducible exact o8.o _ (H.put _ _).ext)
     (first
       | ((with_reducible refine(cL _ _).mono ?_)
          rintro e w4 ⟨rfl,DN⟩;have H:=H.grow DN;have o7:=H.ext;have G5:=H.c0;have E6:=H.c1;have hbf:=H.free)
       | ((with_reducible refine(qB _ _ _ _ _).mono ?_)
          rw[EJ.o];rintro e w5 ⟨rfl,Ey⟩;have H:=H.grow Ey;have o7:=H.ext;have G5:=H.c0;have E6:=H.c1;have hbf:=H.free))
    go_wp2;go_meet;exact⟨_,_,_,_,rfl,rfl,I (H.put _ _),I (by rw[f9 j0];exact Rj),HPB⟩
   have hkf:k=fn:=j0;subst hkf;go_wp2;go_meet;exact⟨_,_,_,_,rfl,rfl,Ko,I (by
    rw[f7 j0];unfold gN dX;rw[bR (by rw[GK.o];exact i8 _),HVL.o,<-HU.o,<-HY.o];rw[hnu]),I j0⟩
  obtain⟨S,g,p,q,rfl,rfl,HB,HS,HPB⟩:=hcut;have hpb:=HPB.o;have G5:=HB.c0;have E6:=HB.c1;have XC:=I (A0.trans HB.ext);have Ly:=I (HO1.ext HB.ext);have N9:=I (aq Ly.o HB.cell Fd);have YD:=I (HCL k);have Gj:C7 W wc:=XC.o;have o7:=C7.drew wc;have OM:=XC.size;rw[DW.o]at OM;have o8:=I (λ(w':J) (h:C7 W w') (h0:w'.cell? ⟨g,0,none⟩=some (.int .i64 p)) (h1:w'.cell? ⟨g,1,none⟩=some (.int .i64 q))=>(⟨h0,h1,h⟩:w'.cell? ⟨g,0,none⟩=some (.int .i64 p)/\w'.cell? ⟨g,1,none⟩=some (.int .i64 q)/\C7 W w'));clear hcv3 adP MJ hnu;go_wp2_with fail
  go_region_held3 (λw'=>w'.cell? ⟨g,0,none⟩=some (.int .i64 p)/\w'.cell? ⟨g,1,none⟩=some (.int .i64 q)/\C7 W w')
   (first
     | with_reducible exact o8.o _ (Gj.trans o7) (o7.o6 G5) (o7.o6 E6)
     | with_reducible exact o8.o _ (Gj.trans (o7.trans WU)) ((o7.trans WU).o6 G5) ((o7.trans WU).o6 E6)
     | with_reducible exact o8.o _ X5.o HC5.o Zo.o)
   (first
     | ((with_reducible refine(eW _ _ _ j0 j0).mono ?_)
        rintro e w4 ⟨rfl,DN⟩;have o7:C7 wc w4:=o7.trans DN;have TZ:=o7.size)
     | (refine bU _ j9 ?_
        refine ib NT Tryz.Sw rfl Tryz.underlying157 Fd _ _ j9 (w+1) (GI a2 n2 p2) _ j9 (Ly.ext (o7.trans WU)) _ 2 2 (GX S (p,q)) j9 (GL.lit NT _ _ _ 2 j9 _ j9 _ j9 j0) (k8 YD.o) m9 ?_;intro v5 w5 ho hg r7;have HC5:=I (hg.cell ((o7.trans WU).o6 G5) N9);have Zo:=I (hg.cell ((o7.trans WU).o6 E6) N9);obtain⟨a5,n5,p5,rfl,It⟩:=ho.var;have DT:=I ho;have X5:=I (aj (w0:=W) (XC.trans (o7.trans WU)) hg (λj hj=>by have:=Ly.lt j hj;rw[DW.o];omega))
        clear ho hg r7))
  clear Gj;go_wp2_with fail;refine er ?_;exact⟨k+1,a5,n5,p5,I (k8 HK.o),by go_num,rfl,I (by rw[<-HS.o];exact DT),X5⟩
 have hkf:k=fn+1:=k8 HK.o;have hnle:¬((k:Int)<=(fn:Int)):=j0;rw[f7 hle]at HO1;exact JG
def pos(ord:o3)(k:Nat):Nat:=(ord[k]?.getD 0).toNat
theorem VK:∀n:Fin 6,∀s:Fin 32,∀k:Fin 5,s.val<cN n.val->k.val<n.val->M2 ((s.val:Nat):Int) k.val=false ->
 s.val+cN k.val<cN n.val/\bits .or .i64 ((s.val:Nat):Int) (2^k.val)=((s.val+cN k.val:Nat):Int)/\∀j:Fin 5,M2 ((s.val+cN k.val:Nat):Int) j.val=(M2 ((s.val:Nat):Int) j.val||decide (j.val=k.val)):=by decide +kernel
theorem join(n s k:Nat)(E:n<=5)(hs:s<cN n)(G:k<n)(hb:M2 (s:Int) k=false):
 s+cN k<cN n/\bits .or .i64 (s:Int) (2^k)=((s+cN k:Nat):Int)/\∀j,j<5->M2 ((s+cN k:Nat):Int) j=(M2 (s:Int) j||decide (j=k)):=by
 have h:=VK ⟨n,by omega⟩ ⟨s,by have:=bp n E;omega⟩ ⟨k,by omega⟩ hs G hb;exact⟨h.1,h.2.1,λj H=>h.2.2 ⟨j,H⟩⟩
theorem AB{p:Int}{V:o3}(h:ak p V=true):∀i:Nat,-500<=V[i]?.getD 0/\V[i]?.getD 0<=500:=λi=>by
 obtain⟨_,_,_,_,_,_,E⟩:=ap h;by_cases hi:i<JL V
 ·have:=E _ (eN hi);simpa[hi]using this
 simp[q8 (by omega:V.length<=i)]
end
section
variable{w:J}{a:l9}{n k m IV i:Nat}{l L:k9}{V r:o3}
theorem GC.take{cap:Nat}(h:GC w a n cap l)(hk:k<=n):GC w a k cap (l.take k) :=
 ⟨by have:=h.hlen;simp;omega,by have:=h.r8;omega,h.r9,λj hj=>by
  have⟨b,off,e,hc⟩:=h.cell j j0;refine⟨b,off,e,λi hi=>?_⟩;have:=hc i j0
  rwa [XD,f9 hi]⟩
theorem GC.drewN{cap:Nat}(h:GC w a n cap l)(m:Nat):GC (w.drewN m) a n cap l:=h.ext (CI (C7.refl w) m)
def Lg(L:k9)(hi:Int)(k:Nat):Bool:=(List.range k).all λi=>A4 (L[i]?.getD (0,0,0)).1 1 hi&&!Gw (L.take i) (L[i]?.getD (0,0,0)).1
theorem uy(L:k9)(hi:Int)(k:Nat):Lg L hi (k+1)=(Lg L hi k&&(A4 (L[k]?.getD (0,0,0)).1 1 hi&&!Gw (L.take k) (L[k]?.getD (0,0,0)).1)):=by simp[Lg,rN]
theorem jR{hi:Int}(h:(A4 (L[k]?.getD (0,0,0)).1 1 hi&&!Gw (L.take k) (L[k]?.getD (0,0,0)).1)=false)(E:k<m):Lg L hi m=false:=by
 rw[Lg,PZ];exact⟨k,sj.2 E,by rw[h];simp⟩
theorem Vm{hi:Int}(h:Lg L hi (JL L)=true):∀f∈L,1<=f.1/\f.1<=hi:=by
 intro f G;obtain⟨k,E,rfl⟩:=Sr G;have:=(gy.1 h) k (sj.2 E);rw[Id E]at this;simp only[Nm,eI,A4,ef]at this;exact this.1
def eP(p:Int)(V:o3)(L:k9):Bool:=ak p V&&(decide (2<=p)&&(Lg L ((JL V:Int)-2) (JL L)&&decide (0<(bC L (JL V-2)).length)))
theorem SO(h2:2<=n)(h5:n<=5):4<=cN n:=by
 have:n=2∨n=3∨n=4∨n=5:=j0;rcases this with rfl|rfl|rfl|rfl<;>decide
theorem Dq{p:Int}{cap:Nat}(hV:d9 w a n cap V){fa:l9}{fn:Nat}(h:GC w fa fn IV L)(hfn:fn<=1048576):
 f8 181 #[FS p a n cap,GI fa fn IV] w (bl (eP p V L)):=by
 have⟨W,E⟩:=e9 (w.alloc (QD #[.int .i64 p,GI a n cap] 31));refine ns (show W.heap.size=w.heap.size+1 by rw[E];simp) (show C7 w W by rw[E];exact WU) (show W.cell? ⟨w,1,none⟩=some (GI a n cap)by rw[E];simp) (show W.cell? ⟨w,0,none⟩=some (.int .i64 p)by rw[E];simp) hV.hlen λDW HX NZ M3 G=>?_;have ND:=hV.r8;have NC:=hV.r9;have WI:=h.r8;have WH:=h.r9;refine Op h.hlen (h.ext HX) (bY (p:=p) (hV.ext HX)) (hV.ext HX) λGK ab HC I6=>?_;clear h hV;cases hg:ak p V
 ·have HF:=I (show eP p V L=false by unfold eP;rw[hg];rfl);rw[hg,E]at HC;clear hg;(try unfold f8);go_in
  go_wp2_with fail;refine HC.mono ?_;rw[<-E];rintro e w1 ⟨rfl,C4⟩;exact pq
 obtain⟨q,hq,h1,h5,hlen,_,FG⟩:=ap hg;have Yz:=I hg;rw[hg,E]at HC;clear hg;by_cases Oh:p<2
 ·have HF:=I (show eP p V L=false by unfold eP;rw[Yz.o,Ok (by omega:¬2<=p)];rfl);clear hq hlen FG;(try unfold f8);go_in
  go_wp2_with fail;refine HC.mono ?_;rw[<-E];rintro e w1 ⟨rfl,C4⟩;have D1:=C4.o6 M3.o;exact pq
 have Oj:4<=n:=by have:=SO (n:=q) j0 h5;rw[<-G.o,hlen];exact this
 have GQ:n<=32:=by have:=bp q h5;rw[<-G.o,hlen];exact this.2
 clear hq hlen FG;(try unfold f8);go_in
 go_wp2_with fail;refine HC.mono ?_;rw[<-E];rintro e w1 ⟨rfl,C4⟩;have T2:=I C4;have D1:=C4.o6 M3.o;clear C4;have HW:=I E;clear E;go_wp2_with fail;clear D1
 go_loopg [5] fn (λgk ii wr=>∃k:Nat,b9 (gk+k=fn)/\ii=.int .i64 (k:Int)/\b9 (Lg L ((n:Int)-2) k=true)/\b9 (C7 W wr))
 ·exact da
 obtain⟨k,HK,rfl,HO,K⟩:=hrel;have hcv:wr.cell? ⟨w,1,none⟩=some (GI a n cap):=K.o6 NZ.o;by_cases Z:k<fn
 ·have HFW:=I (ab.ext K);obtain⟨b,off,c,x,y,rfl,Eo,Pk,Pj,T7⟩:=HFW.at Z;have Pd:=dk ((n:Int)-2)
  cases hb:A4 c 1 ((n:Int)-2)
  ·have HF:=I (show eP p V L=false by
    unfold eP;rw[GK.o,G.o,jR (k:=k) (m:=fn) (by rw[Eo];simp only;rw[hb];rfl) Z];simp)
   clear Eo;go_wp2
   go_quiet ((go_at_call 32;exact be ta))
   go_wp2;go_ret;exact⟨ag HF.symm,HX.trans (K.trans (E7.ext ⟨_,rfl⟩))⟩
  cases hh:Gw (L.take k) c
  ·have HN:=I (show Lg L ((n:Int)-2) (k+1)=true by rw[uy,HO.o,Eo];simp only;rw[hb,hh];rfl);clear Eo;go_wp2
   go_quiet ((first|(go_at_call 32;exact be ta)|(go_at_call 183;exact be (qC ((HFW.drewN _).take j0) _))))
   go_wp2;refine er ?_;exact⟨k+1,I (k8 HK.o),by go_num,HN,I (K.trans (E7.ext ⟨_,rfl⟩))⟩
  have HF:=I (show eP p V L=false by
   unfold eP;rw[GK.o,G.o,jR (k:=k) (m:=fn) (by rw[Eo];simp only;rw[hh];simp) Z];simp)
  clear Eo;go_wp2
  go_quiet ((first|(go_at_call 32;exact be ta)|(go_at_call 183;exact be (qC ((HFW.drewN _).take j0) _))))
  go_wp2;go_ret;exact⟨ag HF.symm,HX.trans (K.trans (E7.ext ⟨_,rfl⟩))⟩
 have hkf:k=fn:=k8 HK.o;subst hkf;have hcw:wr.cell? ⟨w,0,none⟩=some (.int .i64 p):=K.o6 M3.o;have Pq:=I (ot (w:=wr) p a n cap j0 (ab.ext K));have HF:=I (show eP p V L=decide (0<JL (bC L (n-2)))by
  unfold eP;rw[Yz.o,GK.o,G.o,HO.o,UV (show 2<=p by omega)];simp)
 go_wp2_with fail;refine TS Pq λw2 v ho aa=>?_;obtain⟨af,m,cf,rfl,hm⟩:=ho.var;have HM:=I hm.out;clear ho hm;have NF:decide ((m:Int) > 0)=decide (0<JL (bC L (n-2))):=by rw[HM.o];rw[yy];simp
 clear NF;go_wp2;go_ret;exact⟨ag (by rw[HF.o,HM.o]),HX.trans (K.trans aa)⟩
def Vn(q k:Nat)(c:TU):Bool:=if k<q then Gd c.1 (k:Int) else c.2.2.1
def Iu(A6:List TU)(q k:Nat):o3:=A6.map λc=>c.2.1*D3 (Vn q k c)
def N2(q:Nat)(V:o3)(L:k9):l8:=(List.range (q+1)).map (Iu (dX V L) q)
def Sp(q:Nat):o3:=(List.range (q+1)).map λk=>D3 (decide (k=q))
def Mi(V:o3)(L:k9):l7:=(dX V L).map λc=>c.2.2.2
def E0(p:Int)(V:o3)(L:k9):Bool:=eP p V L&&FM (Mi V L)
def OH(p:Int)(V:o3)(L:k9):l8:=if E0 p V L=true then N2 p.toNat V L else []
def OG(p:Int)(V:o3)(L:k9):o3:=if E0 p V L=true then Sp p.toNat else []
def OF(p:Int)(V:o3)(L:k9):l7:=if E0 p V L=true then Mi V L else []
def qK(w:J)(base:Nat)(e:Ending)(A:l8)(B:o3)(C:l7)(ok:Bool):Prop :=
 ∃va vb vc vs,e=ar (.tuple #[.agg #[va,vb,vc],bl ok])/\DQ w base va vs/\bF w base vs A/\r' w base vb B/\WV w base vc C/\Hw vs vb
theorem vO(hn:JL V=n)(h1:1<=n)(H:∀f∈L,1<=f.1/\f.1+2<=n):∀c∈dX V L,(c.2.1=1∨c.2.1=-1)/\0<=c.1/\c.1<=n:=by
 intro c hc;unfold dX at hc;simp only[Wn]at hc;rcases hc with(hc|hc)|hc
 ·obtain⟨s,hs,rfl⟩:=C'.1 hc;have:=kV hs;exact⟨.inl rfl,by simp only;omega,by simp only;omega⟩
 ·have⟨f,G,E⟩:=Zg.1 hc;have:=H f G;simp only[GX,SU,Wu,Oi]at E;rcases E with rfl|rfl
  ·exact⟨.inl rfl,by simp only;omega,by simp only;omega⟩
  exact⟨.inr rfl,by simp only;omega,by simp only;omega⟩
 simp only[GX,SU,Wu,Oi]at hc;rcases hc with rfl|rfl
 ·exact⟨.inl rfl,by simp only;omega,by simp only;omega⟩
 exact⟨.inr rfl,by simp only;omega,by simp only;omega⟩
theorem BX(V:o3)(L:k9):JL (dX V L)<=JL V+2*JL L+2:=by
 unfold dX;have:=eG L (JL V-2);rw[SW,SW,el,fM];simp only[GX,nR,Pb];omega
theorem ZV{q:Nat}{b:Bool}(h:b=decide (k=q)):((k:Int) == (q:Int))=b:=by
 subst h;by_cases e:k=q
 ·subst e;simp
 rw[Ok e];simp;omega
theorem ng{α β:Type}(f:α->β){l:List α}{x:α}(h:l[k]?=some x):(l.take k).map f++[f x]=(l.take (k+1)).map f:=by rw[fQ h];simp
theorem Do{p:Int}{cap:Nat}(hV:d9 w a n cap V){fa:l9}{fn:Nat}(h:GC w fa fn IV L)(hfn:fn<=1048576):
 Calls prog 107 #[FS p a n cap,.slice fa fn IV] w λe w' =>
  qK w' w.heap.size e (OH p V L) (OG p V L) (OF p V L) (E0 p V L)/\C7 w w':=by
 obtain⟨W,hW⟩:=e9 ((w.alloc (.cells #[.int .i64 p,.slice a n cap] 31)).alloc (.cells #[.slice none 0 0,.slice none 0 0,.slice none 0 0] 105));have DW:=I (show W.heap.size=w.heap.size+2 by rw[hW];simp);have A8:=I (show C7 w W by rw[hW];exact(C7.alloc _ _).trans (C7.alloc _ _));have NZ:=I (show W.cell? ⟨w.heap.size,1,none⟩=some (.slice a n cap)by rw[hW];simp);have M3:=I (show W.cell? ⟨w.heap.size,0,none⟩=some (.int .i64 p)by rw[hW];simp);have R5:=I (show W.heap[w.heap.size+1]?=some (.cells #[.slice none 0 0,.slice none 0 0,.slice none 0 0] 105 (0,0))by rw[hW];exact ai _ _ _ j7);have HVL:=I hV.hlen;have ND:=hV.r8;have NC:=hV.r9;have WI:=h.r8;have WH:=h.r9;have GK:=I h.hlen;have HF:=I (h.ext A8.o);have I6:=I (hV.ext A8.o);have HC:=I (Dq (p:=p) (hV.ext A8.o) (h.ext A8.o) hfn);clear h hV;cases hg:eP p V L
 ·have HG:=I (show E0 p V L=false by unfold E0;rw[hg];rfl);rw[hg,hW]at HC;clear hg;go_in
  go_wp2_with fail;refine HC.o.mono ?_;rw[<-hW];rintro e w1 ⟨rfl,A'⟩;have Eb:w1.cell? ⟨w.heap.size+1,0,none⟩=some (.slice none 0 0):=by rw[aR w1 _ 0 _ _ _ ((A'.block _ ly).trans R5.o)];rfl
  have Eh:w1.cell? ⟨w.heap.size+1,1,none⟩=some (.slice none 0 0):=by rw[aR w1 _ 1 _ _ _ ((A'.block _ ly).trans R5.o)];rfl
  have FZ:w1.cell? ⟨w.heap.size+1,2,none⟩=some (.slice none 0 0):=by rw[aR w1 _ 2 _ _ _ ((A'.block _ ly).trans R5.o)];rfl
  have Ip:∀j,w1.frozen? ⟨w.heap.size+1,j,none⟩=false:=λj=>mo w1 _ j _ _ ((A'.block _ ly).trans R5.o)
  have A0:=I (A8.o.trans A');have LS:=A'.size;rw[DW.o]at LS;clear A';go_wp2_with fail;refine Fn Qw rfl ⟨⟨_,_,_,[],by rw[HG.o],DQ.nil _ _,?_,?_,?_,Hw.nil _⟩,?_⟩
  ·unfold OH;rw[HG.o,f7 j7];exact bF.nil _ _
  ·unfold OG;rw[HG.o,f7 j7];exact r'.nil _ _
  ·unfold OF;rw[HG.o,f7 j7];exact WV.nil _ _
  exact((A0.o.setCell j7 _).setCell j7 _).setCell j7 _
 have hgo:ak p V=true/\2<=p/\Lg L ((V.length:Int)-2) L.length=true:=by
  unfold eP at hg;simp only[eI,ef]at hg;exact⟨hg.1,hg.2.1,hg.2.2.1⟩
 obtain⟨q,rfl,h1,h5,hlen,_,FG⟩:=ap hgo.1;have h2q:2<=q:=j0;have Oj:4<=n:=by have:=SO h2q h5;rw[<-HVL.o,hlen];exact this
 have GQ:n<=32:=by have:=bp q h5;rw[<-HVL.o,hlen];exact this.2
 have hLb:∀f∈L,1<=f.1/\f.1+2<=n:=λf hf=>by have:=Vm hgo.2.2 f hf;have:=HVL.o;omega
 have KX:=I (λ(w1:J) (hx:C7 W w1)=>xP (w:=w1) (q:Int) (I6.o.ext hx) FG j0 j0 (HF.o.ext hx) hLb hfn);have HOKS:=I (show E0 (q:Int) V L=FM (Mi V L)by unfold E0;rw[hg];rfl);obtain⟨A6,IC⟩:=e9 (dX V L);have H6:=I (vO HVL.o j0 hLb);have abA:=I (BX V L);rw[<-IC]at KX H6 abA;have acG:=I IC;rw[hg,hW]at HC;clear hg hgo hlen FG hLb IC;go_in
 go_wp2_with fail;refine HC.o.mono ?_;rw[<-hW];clear hW;rintro e w1 ⟨rfl,A'⟩;have A0:=I A';have D1:=A'.o6 M3.o;have Eu:=A'.o6 NZ.o;clear A';go_wp2_with fail;clear D1 Eu;refine TS (KX.o w1 A0.o) λw2 vcs hoc C4=>?_;obtain⟨ac,m,cc,rfl,hm⟩:=hoc.var;have HM:=I hm.out;have C0:=I (A0.o.trans C4);have Iz:=C0.o.size;rw[DW.o]at Iz;have Ly:=I ((hoc.mono (base':=w.heap.size+2) (by have:=A0.o.size;rw[DW.o]at this;omega)).ext (C7.alloc w2 (.cells #[.slice none 0 0,.slice none 0 0,.slice none 0 0] 105)));have ahW:=hoc.Hr.r8;have ahU:=hoc.Hr.r9;have hmb:m<=3000000:=by have h1:=abA.o;have h2:=HM.o;have h3:=HVL.o;have h4:=GK.o;omega
 have Nr:=I (C9.new (w:=w2) (base:=w.heap.size+2) Iz);clear hoc hm C4;go_wp2_with fail
 go_loopg [8] (q+1) (λgk ii wr=>∃(k:Nat) (va vb:arQ) (vs:List arQ),b9 (gk+k=q+1)/\ii=.int .i64 (k:Int)/\b9 (C9 wr (w.heap.size+2) w2.heap.size va vb (.slice none 0 0) vs ((List.range k).map (Iu A6 q)) ((List.range k).map λk=>D3 (decide (k=q))) [])/\b9 (A5 NT 160 wr (w.heap.size+2) (.slice ac m cc) A6)/\b9 (C7 W wr))
 case atStart=>exact⟨0,_,_,_,I j0,rfl,Nr,Ly,I (C0.o.trans (C7.alloc _ _))⟩
 rename Nat=>g1;rename J=>y9;obtain⟨k,va,vb,vs,HK,rfl,Fb,Fs,HX⟩:=hrel;have Ll:=HX.o.size;rw[DW.o]at Ll;have RT:y9.cell? ⟨w.heap.size,0,none⟩=some (.int .i64 (q:Int)):=HX.o.o6 M3.o;obtain⟨aA,nA,cA,rfl,SY⟩:=Fb.o.a.var;obtain⟨aB,nB,cB,rfl,TJ⟩:=Fb.o.b.var;by_cases To:k<=q
 ·have HO1:=I (r'.D2 y9 y9.heap.size _ rfl (i8 _));go_wp2_with fail
  go_loopg [9,10] m (λgk row jj wr=>∃(j:Nat) (a1:l9) (n1 p1:Nat),b9 (gk+j=m)/\jj=.int .i64 (j:Int)/\row=.slice a1 n1 p1/\b9 (r' wr y9.heap.size (.slice a1 n1 p1) (Iu (A6.take j) q k))/\b9 (C7 y9 wr))
  case atStart=>exact O0
  obtain⟨j,a1,n1,p1,HJ,rfl,rfl,SX,G⟩:=hrel;have KI:=G.o.size;have hcp2:=G.o.o6 RT;by_cases Ln:j<m
  ·obtain⟨cb,Lt,⟨c0,sg,fr,cx,cy⟩,hca,MO,Z⟩:=(Fs.o.ext G.o).Hr.at Ln;subst hca;have k0:wr.cell? ⟨cb,Lt+j*5,none⟩=some (.int .i64 c0):=Z 0 _ rfl;have k1:wr.cell? ⟨cb,Lt+j*5+1,none⟩=some (.int .i64 sg):=Z 1 _ rfl;have k2:wr.cell? ⟨cb,Lt+j*5+2,none⟩=some (.bool fr):=Z 2 _ rfl;have K3:=H6.o (c0,sg,fr,cx,cy) (RU MO);simp only at K3;obtain⟨J7,hc00,hc0n⟩:=K3;have K8:=I J7;obtain⟨on,hon⟩:=e9 (Vn q k (c0,sg,fr,cx,cy));have Gn:=I hon;have F9:=I (show Iu (A6.take j) q k++[sg*D3 on]=Iu (A6.take (j+1)) q k by rw[hon];exact ng _ MO);have Fq:=I (show(Iu (A6.take j) q k).length<=3000000 by unfold Iu;rw[dc,k6];have:=HM.o;omega);have N9:=I (show some cb≠(Value.slice a1 n1 p1).ownBlock from λe=>aL (e:=3) (e':=160) Fd SX.o (Fs.o.ext G.o) cb e.symm rfl);clear Z MO hon J7;go_upto_if 43 with fail
   go_cut [11] (λbb wx=>bb=.bool on/\b9 (C7 wr wx))
   case first =>
    by_cases hlt:k<q
    ·have T3:Gd c0 (k:Int)=on:=by rw[Gn.o];unfold Vn;rw[f9 hlt]
     go_wp2_with (first|(go_at_call 99;refine(bE _ _ _ j0).mono ?_;rw[T3];rintro e w' ⟨rfl,rfl⟩));go_meet;exact⟨rfl,I (C7.refl _)⟩
    have P8:fr=on:=by rw[Gn.o];unfold Vn;rw[f7 hlt]
    subst P8;go_wp2_with fail;go_meet;exact⟨rfl,I (C7.refl _)⟩
   obtain⟨rfl,JZ⟩:=hcut;replace k1:=JZ.o.o6 k1;have o7:C7 y9 wc.drew:=(G.o.trans JZ.o).trans (C7.drew _);have hmul:IntKind.i64.wrap (sg*D3 on)=sg*D3 on:=by
    rw[mn];have h1:=K8.o;cases on<;>rcases h1 with rfl|rfl<;>decide
   have o8:=I (λ(w':J) (h:C7 y9 w') (h1:w'.cell? ⟨cb,Lt+j*5+1,none⟩=some (.int .i64 sg))=>(⟨h1,h⟩:w'.cell? ⟨cb,Lt+j*5+1,none⟩=some (.int .i64 sg)/\C7 y9 w'));have HROC:=I (SX.o.ext JZ.o);have Gj:=C7.drew wc;have hkA:C7 wc (wc.alloc (.cells #[.int .i64 (sg*D3 on)] 3)).drew:=(C7.alloc _ _).trans (C7.drew _);have SQ:=I (G.o.trans JZ.o);have OM:=SQ.o.size;have aeY:=I k1;clear k0 k2 o7;go_wp2_with fail
   go_region_held3 (λw'=>w'.cell? ⟨cb,Lt+j*5+1,none⟩=some (.int .i64 sg)/\C7 y9 w')
    (first
      | with_reducible exact o8.o _ (SQ.o.trans Gj) (Gj.o6 aeY.o)
      | with_reducible exact o8.o _ (SQ.o.trans hkA) (hkA.o6 aeY.o)
      | with_reducible exact o8.o _ MN hc5)
    (first
      | ((with_reducible refine(fH _ _).mono ?_)
         rintro e w4 ⟨rfl,rfl⟩)
      | (refine bU _ j9 ?_
         refine aO _ _ j9 y9.heap.size (.slice a1 n1 p1) _ j9 (HROC.o.ext hkA) _ 1 _ [sg*D3 on] j9 ((d9.Ie wc _ _ _ rfl).ext (C7.drew _)) (k8 Fq.o) m9 ?_;intro v5 w5 ho hg r7;have hc5:=hg.cell (hkA.o6 aeY.o) N9.o;obtain⟨a5,n5,p5,rfl,It⟩:=ho.var;have DT:=I ho;have MN:=aj (w0:=y9) (SQ.o.trans hkA) hg (λj hj=>(HROC.o.lt j hj).1);clear ho hg r7)
      | fail)
   have X5:=I MN;clear MN hc5 hkA;clear Gj;go_wp2_with fail;refine vE ?_;exact⟨j+1,a5,n5,p5,I (k8 HJ.o),by go_num,rfl,I cd,X5⟩
  have NG:j=m:=k8 HJ.o;subst NG;have HT:=I (show A6.take j=A6 from bR (by rw[HM.o];exact i8 _));rw[HT.o]at SX;have Ea:=I (Fb.o.ext G.o);have G5:=Ea.o.c0;have Lz:=I (show vs.length<=6 by rw[Fb.o.rows.len,dc,Rc];omega);have TC:=I (Fs.o.ext G.o);have XR:=I (HX.o.trans G.o)
  go_wp2_with (first
   | (at_builtin;refine eY rfl _ _ rfl (w.heap.size+2) (.slice aA nA cA) vs rfl (Ea.o.a.ext (C7.alloc _ _)) _ _ 1 rfl N3 rfl (k8 Lz.o) m9 ?_;intro v6 w6 ho hg r7;have O7:=I (Fb.o.Lf (G.o.trans (C7.alloc _ _)) (SX.o.ext (C7.alloc _ _)) j0 hg ho r7);have Mv:=Ea.o.OR (C7.alloc _ _) hg;have hc6:=C9.FF Mv;have hf6:=C9.F2 Mv 0;have HOK6:=I ((TC.o.Gx (C7.alloc _ _) Ea.o.a Fd hg).UR Mv Fd 0 v6);have X6:=I (((XR.o.trans (C7.alloc _ _)).grown hg (λj hj=>by rw[DW.o];exact(Fb.o.a.lt j hj).1)).store (b:=w2.heap.size) 0 (by rw[DW.o];exact Iz) v6);obtain⟨a6,n6,p6,rfl,Ia⟩:=ho.var;clear ho hg r7 Mv))
  have hcp7:=C7.o6 X6.o M3.o;have hb7:=O7.o.c1;clear hc6 hf6 G5 hcp2;obtain⟨w7,Gh⟩:=e9 (w6.setCell ⟨w2.heap.size,0,none⟩ (.slice a6 n6 p6));have HOK7:=I (show A5 NT 160 w7 (w.heap.size+2) (.slice ac j cc) A6 by rw[Gh];exact HOK6.o);rw[<-Gh]at O7 X6 hcp7 hb7;rw[<-Gh];clear Gh;have hglt:=O7.o.lt;have hsz7:=X6.o.size;rw[DW.o]at hsz7;obtain⟨bq,hbq⟩:=e9 (decide (k=q));have hbe:((k:Int) == (q:Int))=bq:=ZV hbq;have HBQ:=I hbq;have J1:=I (show((List.range k).map λk=>D3 (decide (k=q))).length<=6 by simp;omega);clear hbq
  go_region_law (first
   | (refine bU _ rfl (aO _ _ rfl (w.heap.size+2) (.slice aB nB cB) _ rfl ((O7.o.b.ext (C7.alloc _ _)).ext (C7.drew _)) _ 1 _ [D3 bq] rfl ((d9.Ie _ _ _ _ rfl).ext (C7.drew _)) (k8 J1.o) m9 ?_);intro v8 w8 ho hg r7;have XA:=(C7.alloc w7 (.cells #[.int .i64 (D3 bq)] 3)).trans (C7.drew _);have JS:=I (O7.o.pushB XA hg ho r7);have Lr:=O7.o.OQ XA hg;have hc8:=C9.FE Lr;have hf8:=C9.F2 Lr 1;have aeL:=I ((HOK7.o.Xa XA O7.o.b Fd hg).UR Lr Fd 1 v8);have X8:=I (((X6.o.trans XA).grown hg (λj hj=>by rw[DW.o];exact(O7.o.b.lt j hj).1)).store (b:=w2.heap.size) 1 (by rw[DW.o];exact Iz) v8);obtain⟨a8,n8,p8,rfl,M7⟩:=ho.var;clear ho hg r7 Lr)
   | (go_simp;go_at_call 170;refine cP (fH _ _) ?_))
  all_goals
   go_wp2;refine kf ?_;exact⟨k+1,_,_,_,I (k8 HK.o),by go_num,I (by rw[rN,sr,sr];have:=JS.o;rw[HBQ.o]at this;exact this),aeL,X8⟩
 have hkq':k=q+1:=k8 HK.o;have hnkq:¬((k:Int)<=(q:Int)):=j0;subst hkq';obtain⟨AA,hAA⟩:=e9 ((List.range (q+1)).map (Iu A6 q));obtain⟨BB,A1⟩:=e9 ((List.range (q+1)).map λk=>D3 (decide (k=q)));rw[<-hAA,<-A1]at Fb;have HAA:=I (show AA=N2 q V L by rw[hAA,acG.o];rfl);have Gf:=I (show BB=Sp q from A1);clear hAA A1;go_wp2_with fail
 go_loopg [12] m (λgk jj wr=>∃(j:Nat) (vc:arQ),b9 (gk+j=m)/\jj=.int .i64 (j:Int)/\b9 (C9 wr (w.heap.size+2) w2.heap.size (.slice aA nA cA) (.slice aB nB cB) vc vs AA BB ((A6.take j).map λc=>c.2.2.2))/\b9 (A5 NT 160 wr (w.heap.size+2) (.slice ac m cc) A6)/\b9 (C7 W wr))
 case atStart=>exact⟨0,_,I j0,rfl,Fb,Fs,HX⟩
 obtain⟨j,vc,HJ,rfl,Oz,B9,G⟩:=hrel;have KI:=G.o.size;rw[DW.o]at KI;have hglt:=Oz.o.lt;have Ew:=Oz.o.c2;obtain⟨aC,nC,cC,rfl,HNC⟩:=Oz.o.c.var;by_cases Ln:j<m
 ·obtain⟨cb,Lt,⟨c0,sg,fr,cx,cy⟩,hca,MO,Z⟩:=B9.o.Hr.at Ln;subst hca;have k3:wr.cell? ⟨cb,Lt+j*5+3,none⟩=some (.int .i64 cx):=Z 3 _ rfl;have k4:wr.cell? ⟨cb,Lt+j*5+4,none⟩=some (.int .i64 cy):=Z 4 _ rfl;have LF:cb<wr.heap.size:=O4 _ _ k3;have F9:=I (show((A6.take j).map λc=>c.2.2.2)++[(cx,cy)]=(A6.take (j+1)).map λc=>c.2.2.2 from ng (λc:TU=>c.2.2.2) MO);have Fq:=I (show((A6.take j).map λc=>c.2.2.2).length<=3000000 by rw[dc,k6];have:=HM.o;omega);clear Z MO;go_wp2_with fail
  go_region_law (first
   | (refine bU _ rfl (dq _ _ rfl (w.heap.size+2) (.slice aC nC cC) _ rfl ((Oz.o.c.ext (C7.alloc _ _)).ext (C7.drew _)) _ 1 _ [(cx,cy)] rfl ((i6.one' _ _ _ _ _ rfl).ext (C7.drew _)) (k8 Fq.o) m9 ?_);intro v8 w8 ho hg r7;have XA:=(C7.alloc wr (.cells #[.int .i64 cx,.int .i64 cy] 56)).trans (C7.drew _);have JS:=I (Oz.o.Sr XA hg ho);have Lr:=Oz.o.aaY XA hg;have hc8:=C9.F3 Lr;have hf8:=C9.F2 Lr 2;have aeL:=I ((B9.o.W7 XA Oz.o.c Fd hg).UR Lr Fd 2 v8);have X8:=I (((G.o.trans XA).grown hg (λj hj=>by rw[DW.o];exact(Oz.o.c.lt j hj).1)).store (b:=w2.heap.size) 2 (by rw[DW.o];exact Iz) v8);obtain⟨a8,n8,p8,rfl,M7⟩:=ho.var;clear ho hg r7 Lr))
  all_goals
   go_wp2;refine vE ?_;exact⟨j+1,_,I (k8 HJ.o),by go_num,I (by rw[<-F9.o];exact JS.o),aeL,X8⟩
 have NG:j=m:=k8 HJ.o;subst NG;have HT:=I (show(A6.take j).map (λc=>c.2.2.2)=Mi V L by
  rw[bR (by rw[HM.o];exact i8 _),acG.o];rfl)
 rw[HT.o]at Oz;have Pt:=I (jT Oz.o.c.rats);have HFO:=I (Oz.o);have J':(w.heap.size+1)<W.heap.size:=by rw[DW.o];omega
 have DO:=I (λ(w':J) (hx:C7 W w')=>(hx.block _ J').trans R5.o);clear Ew;cases Pm:FM (Mi V L)
 ·have Hp:=I (show E0 (q:Int) V L=false by rw[HOKS.o,Pm]);rw[Pm]at Pt;clear Pm;have Ew:=Oz.o.c2;go_wp2_with fail;refine IR Pt λw4 DN=>?_;have Eb:=C9.FF (DO.o w4 (G.o.trans DN));have Eh:=C9.FE (DO.o w4 (G.o.trans DN));have FZ:=C9.F3 (DO.o w4 (G.o.trans DN));have Ip:=C9.F2 (DO.o w4 (G.o.trans DN));have XF:=I (A8.o.trans (G.o.trans DN));clear DN;go_wp2_with fail;refine Fn Qw rfl ⟨⟨_,_,_,[],by rw[Hp.o],DQ.nil _ _,?_,?_,?_,Hw.nil _⟩,?_⟩
  ·unfold OH;rw[Hp.o,f7 j7];exact bF.nil _ _
  ·unfold OG;rw[Hp.o,f7 j7];exact r'.nil _ _
  ·unfold OF;rw[Hp.o,f7 j7];exact WV.nil _ _
  exact((XF.o.store 0 j0 _).store 1 j0 _).store 2 j0 _
 have R3:=I (show E0 (q:Int) V L=true by rw[HOKS.o,Pm]);rw[Pm]at Pt;clear Pm;have Ew:=Oz.o.c2;go_wp2_with fail;refine IR Pt λw4 DN=>?_;have Eb:=C9.FF (DO.o w4 (G.o.trans DN));have Eh:=C9.FE (DO.o w4 (G.o.trans DN));have FZ:=C9.F3 (DO.o w4 (G.o.trans DN));have Ip:=C9.F2 (DO.o w4 (G.o.trans DN));have H:=I (Oz.o.ext DN);have Nh:=H.o.c0;have PH:=H.o.c1;have WL:=H.o.c2;have hgl4:=H.o.lt;have XF:=I (A8.o.trans (G.o.trans DN));clear DN Ew;go_wp2_with fail;refine Fn Qw rfl ⟨⟨_,_,_,vs,by rw[R3.o],?_,?_,?_,?_,H.o.off⟩,?_⟩
 ·exact(((((DQ.on H.o.a).set j7 _).set j7 _).set j7 _).here).mono' j0
 ·unfold OH;rw[R3.o,f9 rfl,gg,<-HAA.o];exact(((((bF.on H.o.rows).set j7 _).set j7 _).set j7 _).here).mono' j0
 ·unfold OG;rw[R3.o,f9 rfl,gg,<-Gf.o];exact(((((r'.on H.o.b).set j7 _).set j7 _).set j7 _).here).mono j0
 ·unfold OF;rw[R3.o,f9 rfl];exact(((((WV.on H.o.c).set j7 _).set j7 _).set j7 _).here).mono j0
 exact((XF.o.store 0 j0 _).store 1 j0 _).store 2 j0 _
def iL(L:k9):Nat:=L.foldl (λa f=>a ||| 2^f.1.toNat) 0
theorem BE(h:k<JL L):iL (L.take (k+1))=iL (L.take k) ||| 2^(L[k]?.getD (0,0,0)).1.toNat:=by
 unfold iL;rw[jY h,Wr];rfl
theorem Dy(c:Nat):∀(L:k9),(∀f∈L,0<=f.1)->(iL L).testBit c=Gw L (c:Int):=by
 have E:∀(L:k9) (s:Nat),(∀f∈L,0<=f.1)->(L.foldl (λa f=>a ||| 2^f.1.toNat) s).testBit c=(s.testBit c||Gw L (c:Int)):=by
  intro L
  induction L with
  | nil=>intro s _;simp[Gw]
  | cons f L ih =>
    intro s h;rw[RN,ih _ (λg hg=>h g (B1 _ hg)),Nat.testBit_or,Nat.testBit_two_pow];have h0:=h f o2;have:decide (f.1.toNat=c)=(f.1 == (c:Int)):=by rw[yy];simp;omega
    rw[this];simp only[Gw,List.any_cons,Bool.or_assoc]
 intro L h;have:=E L 0 h
 simpa[iL]using this
theorem US:∀(L:k9),(∀f∈L,f.1<=30)->iL L<2^31:=by
 have E:∀(L:k9) (s:Nat),s<2^31->(∀f∈L,f.1<=30)->L.foldl (λa f=>a ||| 2^f.1.toNat) s<2^31:=by
  intro L
  induction L with
  | nil=>intro s hs _;exact hs
  | cons f L ih =>
    intro s hs h;have h0:=h f o2;exact ih _ (aC hs (Nat.pow_lt_pow_right j0 j0)) λg hg=>h g (B1 _ hg)
 exact λL h=>E L 0 Fd h
theorem Kz(s k:Nat):M2 (s:Int) k=s.testBit k:=by
 unfold M2;rw[Nat.testBit_eq_decide_div_mod_eq,yy];have:(s:Int)/2^k=((s/2^k:Nat):Int):=j7;rw[this];simp only[ef];omega
theorem Ke{s:Nat}(hs:s<2^31)(hk:k<=30):bits .or .i64 (s:Int) (2^k)=((s ||| 2^k:Nat):Int):=by
 have h2:2^k<2^31:=Nat.pow_lt_pow_right j0 j0;have:=S2 s (2^k) j0 j0;rw[<-this];congr 1
theorem Vg(k:Nat)(h:k<=30):(1:Int)<=2^k/\(2:Int)^k<=1073741824:=by
 have h1:2^k<=2^30:=W7 j0 h;have h2:0<2^k:=Nat.pow_pos j0;have E:((2^k:Nat):Int)=(2:Int)^k:=j7;rw[<-E];omega
def G7:mg (Int×Int×Int):=⟨λx=>[U x.1,U x.2.1,U x.2.2],3,λ_=>rfl,by omega,λx u h=>by simp only[SU,Wu,Oi]at h;rcases h with rfl|rfl|rfl<;>rfl⟩
theorem GC.Hr{cap:Nat}(h:GC w a n cap l):GL G7 w a n cap l :=
 ⟨h.hlen,h.r8,h.r9,λk H=>by
  have⟨b,off,e,hc⟩:=h.cell k H;refine⟨b,off,e,λk x j v hx G=>?_⟩;have K:=(O2.1 hx).1;have E:=hc k (by rw[<-h.hlen];exact K);rw[hx]at E;simp only[Nm]at E
  match j with
  | 0 =>
     obtain rfl:Value.int .i64 x.1=v:=by simpa[G7]using G
     exact E.1
  | 1 =>
     obtain rfl:Value.int .i64 x.2.1=v:=by simpa[G7]using G
     exact E.2.1
  | 2 =>
     obtain rfl:Value.int .i64 x.2.2=v:=by simpa[G7]using G
     exact E.2.2
  | j+3=>simp[G7]at G⟩
theorem GL.QH{cap:Nat}(h:GL G7 w a n cap l):GC w a n cap l :=
 ⟨h.hlen,h.r8,h.r9,λk E=>by
  have⟨b,off,e,hc⟩:=h.cell k E;refine⟨b,off,e,λk E=>?_⟩;have G:k<JL l:=by rw[h.hlen];exact E
  have hx:=Id G;rw[hx];exact⟨hc k _ 0 _ hx rfl,hc k _ 1 _ hx rfl,hc k _ 2 _ hx rfl⟩⟩
theorem Tryz.M9:(prog.info? 115).map (λi=>(i.zero,i.size,i.bytes))=some (some (.agg #[U 0,U 0,U 0]),G7.c,24):=by kernel_rfl
theorem Am{cap:Nat}(h:GC w a n cap l)(hb:n<=1099511627776):
 Calls prog 206 #[GI a n cap] w λe w'=>∃v,e=ar v/\A5 G7 115 w' w v l/\C7 w w':=by
 have heq:∀w':J,(binOp .eql 65 (GI a n cap) d6).run prog w'=.ok (bl a.isNone) w':=λw'=>V4 w' _ _ a n cap 0 0 Zf
 have HL:=I h.hlen;cases a with
 | none =>
   have hl:l=[]:=by
    exact N1
   exact QF
 | some ad =>
   simp only[E3]at heq;have H:=I ((h.ext (C7.alloc w (QD #[] 115))).Hr);have G:=I (A5.D2 G7 115 w w _ rfl (i8 _));clear h;go_in
   go_wp2_with (at_builtin;refine dJ G7 Tryz.M9 rfl Zf Fd rfl _ _ rfl w _ _ rfl G.o _ n _ l rfl H.o Yu j7 ?_;intro v' w1 ho hg r7);go_ret;exact⟨_,rfl,ho,WU.grown hg (λk E=>wZ (tu (show some w.heap.size=some k from E)))⟩
def Jh(n:Nat)(L:k9):k9:=L++[((n:Int)-1,0,1)]
theorem DD{v:Int}(h:-500<=v/\v<=500):D9 (0,1) (v,1)=((-v,1),true):=by
 have H:z7 (0,1)=true:=by decide
 have G:z7 (v,1)=true:=oT j0 j0 aT aT K';unfold D9;rw[H,G];simp only[Bool.and_self,Pl];rw[show(0:Int)*1-v*1=-v by omega,show(1:Int)*1=1 by rfl];have E:z7 (-v,1)=true:=oT j0 j0 aT aT K';have hg:gI (-v) 1=1:=by rw[kr];simp
 unfold aN;rw[f7 (by simp[A4];omega),f7 j0,hg];simp only[Int.tdiv_one];unfold Gk;rw[f9 E]
theorem yI(hn:JL V=n)(h1:1<=n)(E:∀y∈V,-500<=y/\y<=500):ik V ((n:Int)-1,0,1)=(-(V[n-1]?.getD 0),1):=by
 have hb:=dp E (n-1);unfold ik;simp only;rw[show((n:Int)-1).toNat=n-1 by omega,DD hb]
theorem lY(E:JL V=n)(H:1<=n)(G:∀y∈V,-500<=y/\y<=500)(L:k9):bS V (bC L (n-2))++aX V (Jh n L)=dX V L:=by
 have K:aX V (Jh n L)=aX V L++GX ((n:Int)-1) (ik V ((n:Int)-1,0,1)):=by
  unfold Jh aX;rw[zo];simp
 rw[K,yI E H G];unfold dX;rw[E,yf]
def RX(V:o3)(f:Int×Int×Int):Bool:=(D9 f.2 (V[f.1.toNat]?.getD 0,1)).2
theorem UH{a b:o4}(h:(D9 a b).2=true):z7 (D9 a b).1=true:=by
 unfold D9 at h⊢;split at h
 ·next h1=>rw[f9 h1];exact jy h
 simp at h
theorem Zz{a b:o4}(h:(D9 a b).2=false):(D9 a b).1=(0,0):=by
 unfold D9 at h⊢;split at h
 ·next h1=>rw[f9 h1];exact rR h
 next h1=>rw[f7 h1]
theorem Uv{v:Int}(h:-1000000000<=v/\v<=1000000000):z7 (v,1)=true:=oT j7 j7 aT aT K'
theorem BL(H:JL V=n)(Z:1<=n)(G:∀y∈V,-500<=y/\y<=500):FM (Mi V L)=(Jh n L).all (RX V):=by
 have h0:Mi V L=(bS V (bC L (n-2))).map (λc=>c.2.2.2)++(Jh n L).flatMap λf=>[ik V f,(-(ik V f).1,(ik V f).2)]:=by
  unfold Mi;rw[<-lY H Z G,sr];congr 1;unfold aX;rw[List.map_flatMap];rfl
 have Q:((bS V (bC L (n-2))).map λc=>c.2.2.2).all z7=true:=by
  rw[gy];intro x hx;obtain⟨c,hc,rfl⟩:=C'.1 hx;obtain⟨s,_,rfl⟩:=C'.1 hc;have:=dp G s.toNat;exact Uv j0
 unfold FM;rw[h0,tn,Q,y6,List.all_flatMap];congr 1
 funext f
 unfold RX;cases E:(D9 f.2 (V[f.1.toNat]?.getD 0,1)).2
 ·have:=Zz E;unfold ik;rw[this];decide
 have:=UH E;have K:=kL (D9 f.2 (V[f.1.toNat]?.getD 0,1)).1.1 (D9 f.2 (V[f.1.toNat]?.getD 0,1)).1.2;unfold ik;simp only[Zd,QV,Y9];rw[K,this];rfl
def dR(m j:Nat)(r:o3):o3:=r.mapIdx λi x=>if m<i/\(i-m) % 2=1/\i<j then -x else x
theorem CN(m j:Nat)(r:o3):JL (dR m j r)=JL r:=by simp[dR]
theorem Vr{j:Nat}(h:i<JL r):(dR m j r)[i]?.getD 0=if m<i/\(i-m) % 2=1/\i<j then -(r[i]?.getD 0) else r[i]?.getD 0:=by
 simp[dR,h]
theorem yW(m:Nat)(r:o3):dR m (m+1) r=r:=by
 apply TC (by simp[dR]);intro i h1 h2;simp only[dR,OL];rw[f7 j0]
theorem Be{t:Nat}(h:m+1+2*t<JL r):(dR m (m+1+2*t) r).set (m+1+2*t) (-(r[m+1+2*t]?.getD 0))=dR m (m+1+2*(t+1)) r:=by
 apply TC (by simp[dR]);intro i h1 E;rw[Tu];simp only[dR,OL];simp only[dR,cC]at E;split
 ·next e=>subst e;rw[f9 j0,Id h];rfl
 next e =>
 by_cases hc:m<i/\(i-m) % 2=1/\i<m+1+2*t
 ·rw[f9 hc,f9 j0]
 rw[f7 hc,f7 j0]
theorem CM{j:Nat}(h:JL r<=j):dR m j r=dR m (JL r) r:=by
 apply TC (by simp[dR]);intro i h1 E;simp only[dR,OL];simp only[dR,cC]at E;by_cases hc:m<i/\(i-m) % 2=1
 ·rw[f9 ⟨hc.1,hc.2,by omega⟩,f9 ⟨hc.1,hc.2,by omega⟩]
 rw[f7 j0,f7 j0]
theorem qX(V:o3):∀(E:k9) (i:Nat) (c:TU),(aX V E)[i]?=some c->c.2.1=if i % 2=1 then -1 else 1
 | [],i,c,h=>by simp[aX]at h
 | f::E,0,c,h=>by
   simp only[aX,TO,GX,V6,XT,bq]at h;subst h;rfl
 | f::E,1,c,h=>by
   simp only[aX,TO,GX,V6,SB,XT,bq]at h;subst h;rfl
 | f::E,i+2,c,h=>by
   simp only[aX,TO,GX,V6,Qu,SB]at h;have:=qX V E i c h;rw[this];have:(i+2) % 2=i % 2:=j0
   rw[this]
theorem Ay(V:o3)(E:k9):∀c∈aX V E,c.2.2.1=false:=by
 intro c hc;obtain⟨f,_,G⟩:=Zg.1 hc;simp only[GX,SU,Wu,Oi]at G;rcases G with rfl|rfl<;>rfl
theorem Vq(V:o3)(G:o3)(E:k9)(q k:Nat)(Q:k<q):
 dR (JL G) (JL ((bS V G++aX V E).map (·.1))) (DK ((bS V G++aX V E).map (·.1)) k)=Iu (bS V G++aX V E) q k:=by
 apply TC (by simp[dR,DK,Iu]);intro i h1 H;simp only[Iu,dc]at H;simp only[dR,DK,Iu,OL,lx,dc];unfold Vn;rw[f9 Q];by_cases hi:i<JL G
 ·rw[f7 j0];have:(bS V G++aX V E)[i].2.1=1:=by
   rw[List.getElem_append_left (by rw[el];exact hi)];simp[bS]
  rw[this];omega
 have K:=el V G;have hb:i-(bS V G).length<JL (aX V E):=by rw[SW]at H;omega
 have e:(bS V G++aX V E)[i]=(aX V E)[i-(bS V G).length]:=List.getElem_append_right j0;have hs:=qX V E (i-(bS V G).length) _ (Id hb);rw[<-e,K]at hs;rw[hs];by_cases hc:(i-G.length) % 2=1
 ·rw[f9 ⟨by omega,hc,H⟩,f9 hc];omega
 rw[f7 j0,f7 hc];omega
theorem wN(V:o3)(G:o3)(E:k9)(q:Nat):List.replicate (JL G) 1++List.replicate (2*JL E) 0=Iu (bS V G++aX V E) q q:=by
 unfold Iu;rw[sr];congr 1
 ·refine(NY.2 ⟨by rw[dc,el],λx hx=>?_⟩).symm;obtain⟨c,hc,rfl⟩:=C'.1 hx;obtain⟨s,_,rfl⟩:=C'.1 hc;simp[Vn,D3]
 refine(NY.2 ⟨by rw[dc,fM],λx hx=>?_⟩).symm;obtain⟨c,hc,rfl⟩:=C'.1 hx;have:=Ay V E c hc;simp[Vn,this,D3]
theorem CU(q:Nat):List.replicate q 0++[(1:Int)]=Sp q:=by
 unfold Sp;rw[rN,sr];congr 1
 ·refine(NY.2 ⟨by simp,λx hx=>?_⟩).symm;obtain⟨k,E,rfl⟩:=C'.1 hx;have:k<q:=sj.1 E;rw[Ok j0];rfl
 simp[D3]
def GN(m N i:Nat)(A:l8):l8:=A.mapIdx λr row=>if r<i then dR m N row else row
theorem Vt(m N i:Nat)(A:l8):JL (GN m N i A)=JL A:=by simp[GN]
theorem CL(m N:Nat)(A:l8):GN m N 0 A=A:=by
 apply TC (by simp[GN]);intro r h1 h2;simp[GN]
theorem zD{N:Nat}{A:l8}(h:i<JL A):(GN m N i A)[i]?.getD []=A[i]?.getD []:=by
 simp[GN,h]
theorem CK{N:Nat}{A:l8}(h:i<JL A):(GN m N i A).set i (dR m N (A[i]?.getD []))=GN m N (i+1) A:=by
 apply TC (by simp[GN]);intro r h1 h2;rw[Tu];simp only[GN,OL];split
 ·next e=>subst e;rw[f9 j0,Id h];rfl
 next e =>
 by_cases hr:r<i
 ·rw[f9 hr,f9 j0]
 rw[f7 hr,f7 j0]
theorem Vu(m N:Nat)(A:l8):GN m N (JL A) A=A.map (dR m N):=by
 apply TC (by simp[GN]);intro r E h2;simp only[GN,cC]at E;simp only[GN,OL,lx];rw[f9 E]
theorem qr(q:Nat)(l:o3):JL (EL q l)=q:=by simp[EL]
theorem mC{q:Nat}{l:o3}(h:k<q):(EL q l)[k]?.getD []=DK l k:=by simp[EL,h]
theorem gJ(l:o3)(k:Nat):JL (DK l k)=JL l:=by simp[DK]
theorem cx(b:Bool):0<=D3 b/\D3 b<=1:=by cases b<;>decide
theorem ZY(l:o3)(k j:Nat):0<=(DK l k)[j]?.getD 0/\(DK l k)[j]?.getD 0<=1:=by
 by_cases h:j<JL l
 ·have:(DK l k)[j]?.getD 0=D3 (Gd l[j] (k:Int)):=by simp[DK,h]
  rw[this];exact cx _
 rw[q8 (by rw[gJ];omega)];simp
theorem ZU(V:o3)(G:o3)(E:k9)(q:Nat):
 GN (JL G) (JL ((bS V G++aX V E).map (·.1))) q (EL q ((bS V G++aX V E).map (·.1)))=(List.range q).map (Iu (bS V G++aX V E) q):=by
 have:=Vu (JL G) (JL ((bS V G++aX V E).map (·.1))) (EL q ((bS V G++aX V E).map (·.1)));rw[qr]at this;rw[this];unfold EL;rw[Uc];apply W6;intro k H;exact Vq V G E q k (sj.1 H)
