import Derived.Test.YtdadoignenffgaaGreatDoorEbAllG22
import Derived.Test.YtdadoignenffgaaGreatDoorEbAllG51
import Derived.Test.YtdadoignenffgaaGreatDoorEbAllG9
import Derived.Lib.SliceRun
import Derived.Test.YtdadoignenffgaaGreatDoorEbAllG3
import Derived.Test.YtdadoignenffgaaGreatDoorEbAllG7
import Derived.Test.YtdadoignenffgaaGreatDoorEbAllG2
import Derived.Test.YtdadoignenffgaaGreatDoorEbAllG8
set_option linter.unusedVariables false
set_option linter.unusedSimpArgs false
namespace Go.Proofs.YtdadoignenffgaaGreatDoor
variable{l M V:j7}{i base g n k Cv:Nat}{w:World}{fid:FuncId}{ca:Array Value}{a:j6}{L:j2}{f:Nat->Int}{x y:Value}{t:TypeId}
set_option maxHeartbeats 16000000
set_option maxRecDepth 100000
open Go.RowKit
structure Kept(p:Int->Bool)(l M:j7)(i j:Nat):Prop where
 len:M.length=l.length
 le:i<=j
 jl:j<=l.length
 lo:M.take i=(l.take j).filter fun x=>!p x
 hi:∀k,j<=k->M[k]?.getD 0=l[k]?.getD 0
theorem Kept.drop{p:Int->Bool}{j:Nat}(h:Kept p l M i j)(hj:j<l.length)(hp:p (l[j]?.getD 0)=true):Kept p l M i (j+1) :=
 ⟨h.len,by have:=h.le;omega,by omega,by rw[cu hj,aa8,<-h.lo];simp[hp],fun k hk=>h.hi k e7⟩
theorem Kept.keep{p:Int->Bool}{j:Nat}(h:Kept p l M i j)(hj:j<l.length)(hp:p (l[j]?.getD 0)=false):Kept p l (M.set i (l[j]?.getD 0)) (i+1) (j+1):=by
 have hi:i<M.length:=by have:=h.le;have:=h.len;omega
 refine⟨by rw[H4];exact h.len,by have:=h.le;omega,by omega,?_,fun k hk=>?_⟩
 ·rw[cu hj,aa8,<-h.lo,Kn (by rw[H4];exact hi),List.take_set_of_le (ao _),List.getElem_set_self];simp[hp]
 ·have:=h.le;rw[DZ e7];exact h.hi k e7
theorem Kept.start{p:Int->Bool}(hi:i<l.length)(ha:(l.take i).all (fun x=>!p x)=true)(hp:p (l[i]?.getD 0)=true):Kept p l l i (i+1):=by
 refine⟨rfl,by omega,by omega,?_,fun _ _=>rfl⟩;rw[cu hi,aa8];have:(l.take i).filter (fun x=>!p x)=l.take i:=List.filter_eq_self.2 fun x hx=>Di.1 ha x hx
 rw[this];simp[hp]
theorem o4.zeros{cap:Nat}:∀(m:Nat) {o:Nat} {w:World} {M:j7},o4 w base (.slice (some ⟨g,0,none⟩) n cap) M->∃G,o4 (w.setCells g o (List.replicate m (.int .i64 0))) base (.slice (some ⟨g,0,none⟩) n cap) G/\G.take o=M.take o
 | 0,_,_,M,h=>⟨M,h,rfl⟩
 | m+1,o,w,M,h=>by
   obtain⟨G,h1,h2⟩:=o4.zeros m (o:=o+1) (h.set o 0);refine⟨G,h1,?_⟩;have h3:=Jr (List.take o) h2;rw[aa3,aa3,abw e7]at h3;rw[h3,List.take_set_of_le (ao _)]
theorem o4.Xo{cap:Nat}(h:o4 w base (.slice (some ⟨g,0,none⟩) n cap) M)(hk:k<=n):o4 w base (.slice (some ⟨g,0,none⟩) k cap) (M.take k):=by
 rcases h.2 with⟨he,h0⟩|⟨g',cap',cur,he,hb,hg,h1,h2,hs,ht⟩
 ·cases he
 ·simp only[C',bA,mq,zz]at he;obtain⟨rfl,rfl,rfl⟩:=he;have hl:(M.take k).length=k:=by simp;omega
  refine⟨by simp,.inr ⟨g,cap,cur,by rw[hl],hb,hg,by omega,h2,hs,?_⟩⟩;rw[hl,List.map_take,<-ht,aa3,aeO,aeO,abw hk]
theorem o4.Jg{cap:Nat}(h:o4 w base (.slice (some ⟨g,0,none⟩) n cap) l):base<=g/\g<w.heap.size/\(∀j,w.frozen? ⟨g,j,none⟩=false)/\∀k,k<n->w.cell? ⟨g,k,none⟩=some (.int .i64 (l[k]?.getD 0)):=by
 rcases h.2 with⟨he,h0⟩|⟨g',cap',cur,he,hb,hg,h1,h2,hs,ht⟩
 ·cases he
 ·have G:g'=g:=by simp only[C',bA,mq,zz]at he;exact he.1.symm
  subst G;refine⟨hb,mr hg,fun j=>sd w g' j cur _ hg,fun k hk=>?_⟩;obtain⟨b,off,e,hc⟩:=h.ints.at hk;simp only[bA,mq,zz]at e;rw[<-e.1,<-e.2,Mf]at hc;exact hc
theorem jt{B:Nat}{a:World}(b:Nat)(hb:B<=b):∀(G:List Value) (o:Nat) {w:World},Below B a w->Below B a (w.setCells b o G)
 | [],_,_,h=>h
 | v::r,o,w,h=>jt b hb r (o+1) (h.setCell hb v)
theorem MG(w:World):(zeroValue 3).run Tryz.prog w=.ok (.int .i64 0) w:=rfl
theorem sG{W0:World}{cap:Nat}{p:Int->Bool}(hX:Ext W0 w)(hb:W0.heap.size<=base)(h:o4 w base (.slice (some ⟨g,0,none⟩) n cap) l)(hn:0<n)(hg:IsGo Tryz.prog fid)(hf:FJ Tryz.prog W0 fid ca p):
 Calls Tryz.prog 139 #[.slice (some ⟨g,0,none⟩) n cap,.func (.func fid) #[] ca] w fun e w' =>
  (∃m,e=.returned (.slice (some ⟨g,0,none⟩) m cap)/\o4 w' base (.slice (some ⟨g,0,none⟩) m cap) (l.filter fun x=>!p x))/\Ext W0 w':=by
 have l8:=h.ints.l8;have l9:=h.ints.l9;have OI:∀(args:Array Value) (w:World),(callFunc fid args).run Tryz.prog w=.ok (.enter fid args) w:=hg;have HL:=ae h.ints.hlen;have HO:=ae h;have WD:=h.Jg.1;have HBG:=ae WD;have HF:=ae hf;have HX:=ae hX;have J:=ae (jP (w:=w) h.ints hg (hf.ext hX));clear h hf hX hg WD;by_cases G:∃i,l.findIdx? p=some i
 ·obtain⟨i0,YT⟩:=G;have Wy:cl p l=(i0:Int):=by unfold cl;rw[YT]
  obtain⟨DI,Q,U⟩:=aag.1 YT;have zU:i0<n:=by rw[<-HL.o];exact DI
  have Ap:(l.take i0).all (fun x=>!p x)=true:=by
   rw[Di];intro x hx;obtain⟨j,hj,rfl⟩:=abU.1 hx;have:=U j e7
   simpa using this
  have QC:=ae (Kept.start (p:=p) DI Ap (by rw[bk DI];exact Q));rw[Wy]at J;clear Wy YT Q U Ap DI;go_enter Tryz.func139,Tryz.ntmps139
  go_wp2_with fail;refine J.o.mono ?_;rintro e w1 ⟨rfl,K⟩;have yZ:=ae (HX.o.trans K);have zv:=ae (HO.o.ext K);have hne:((i0:Int) == -1)=false:=by simp
  clear K;go_wp2_with fail
  go_loopg [5,6] n (fun gk ii jj wr=>∃(i j:Nat) (M:j7),b7 (gk+j=n+i0+1)/\ii=.int .i64 (i:Int)/\jj=.int .i64 (j:Int)/\b7 (Kept p l M i j)/\b7 (i<j)/\b7 (o4 wr base (.slice (some ⟨g,0,none⟩) n cap) M)/\b7 (Ext W0 wr))
  case atStart=>exact⟨i0,i0+1,l,ae e7,rfl,by simp,QC,ae e7,zv,yZ⟩
  case round =>
   obtain⟨g1,o7⟩:=b9 gk;subst o7;obtain⟨O,o5⟩:=b9 wr;subst o5;obtain⟨i,j,M,HJ,rfl,rfl,HK,HIJ,HM,zt⟩:=hrel;have LB:=HIJ.o;by_cases hlt:j<n
   ·have hc:=HM.o.Jg.2.2.2 j hlt;rw[HK.o.hi j (ao _)]at hc;obtain⟨x,hx⟩:=b9 (l[j]?.getD 0);rw[<-hx]at hc;have DL:=ae hx;have HC:=ae (HF.o x O zt.o);have Ca:j<l.length:=by rw[HL.o];exact hlt
    clear hx;cases hpx:p x
    ·have I:=ae (HK.o.keep Ca (by rw[<-DL.o];exact hpx));rw[<-DL.o]at I;rw[hpx]at HC;clear hpx;go_wp2_with fail;refine HC.o.mono ?_;rintro e w2 ⟨rfl,zJ⟩;have PV:=ae (HM.o.ext zJ);have hci:=PV.o.Jg.2.2.2 i e7;have Gb:=PV.o.Jg.2.2.1;have hfi:=Gb i;have Fm:=ae (PV.o.set i x);have zk:=ae ((zt.o.trans zJ).store i (SC hb HBG.o) (.int .i64 x));clear zJ Gb;go_wp2_with fail
     go_roundg (g1-1)
     case measure=>have:=HJ.o;omega
     case rel=>exact⟨i+1,j+1,_,ae (j1 HJ.o),by go_num,by go_num,I,ae e7,Fm,zk⟩
    ·have I:=ae (HK.o.drop Ca (by rw[<-DL.o];exact hpx));rw[hpx]at HC;clear hpx;go_wp2_with fail;refine HC.o.mono ?_;rintro e w2 ⟨rfl,zJ⟩;have PV:=ae (HM.o.ext zJ);have zk:=ae (zt.o.trans zJ);clear zJ;go_wp2_with fail
     go_roundg (g1-1)
     case measure=>have:=HJ.o;omega
     case rel=>exact⟨i,j+1,_,ae (j1 HJ.o),rfl,by go_num,I,ae e7,PV,zk⟩
   ·have Eo:j=n:=by have:=HK.o.jl;have:=HL.o;omega
    subst Eo;have WB:∀ty,(Builtin.clear_ #[30] ty #[.slice (some ⟨g,i,none⟩) (j-i) (cap-i)]).run Tryz.prog O=.ok (.tuple #[]) (O.setCells g i (List.replicate (j-i) (.int .i64 0))):=fun ty=>by
     refine Lib.run_clear_slice O _ 3 ty _ abC MG rfl rfl g i _ _ e7 (fun k hk=>?_) (fun k hk=>?_)
     ·rw[HM.o.Jg.2.2.2 (i+k) e7];rfl
     ·exact HM.o.Jg.2.2.1 _
    obtain⟨M',Z,Td⟩:=o4.zeros (w:=O) (j-i) (o:=i) HM.o
    have HT:=ae (show M'.take i=l.filter fun x=>!p x by
     rw[Td,HK.o.lo,p4 (by rw[HL.o];exact ao _)])
    have HMF:=ae Z;have HXF:=ae (jt g (SC hb HBG.o) (List.replicate (j-i) (.int .i64 0)) i zt.o);clear Td Z;go_wp2_with fail;go_ret;exact⟨⟨i,rfl,by rw[<-HT.o];exact HMF.o.Xo e7⟩,HXF.o⟩
 ·have Wy:cl p l=-1:=by
   unfold cl;cases hq:l.findIdx? p with
   | none=>rfl
   | some i=>exact absurd ⟨i,hq⟩ G
  have QF:=ae (show l.filter (fun x=>!p x)=l by
   rw[List.filter_eq_self];intro x hx;cases hq:l.findIdx? p with
   | none=>have:=abh.1 hq x hx;simpa using this
   | some i=>exact absurd ⟨i,hq⟩ G)
  rw[Wy]at J;clear Wy G;go_enter Tryz.func139,Tryz.ntmps139
  go_wp2_with fail;refine J.o.mono ?_;rintro e w1 ⟨rfl,K⟩;have yZ:=ae (HX.o.trans K);have zv:=ae (HO.o.ext K);clear K;go_wp2_with fail;go_ret;exact⟨⟨n,rfl,by rw[QF.o];exact zv.o⟩,yZ.o⟩
def TJ(P:Program)(w:World)(fid:FuncId)(ca:Array Value)(p:Int×Int×Int->Bool):Prop :=
 ∀x y z (w1:World),Ext w w1->Calls P fid (#[.agg #[.int .i64 x,.int .i64 y,.int .i64 z]]++ca) w1 fun e w2=>e=.returned (.bool (p (x,y,z)))/\Ext w1 w2
theorem pN{cap:Nat}{l:j2}{p:Int×Int×Int->Bool}(h:Bq w a n cap l)(hg:IsGo Tryz.prog fid)(hf:TJ Tryz.prog w fid ca p):
 Calls Tryz.prog 204 #[.slice a n cap,.func (.func fid) #[] ca] w fun e w'=>e=.returned (.int .i64 (cl p l))/\Ext w w':=by
 have hn:=h.l8;have hm:=h.l9;have OI:∀(args:Array Value) (w:World),(callFunc fid args).run Tryz.prog w=.ok (.enter fid args) w:=hg;have HL:=ae h.hlen;have HI:=ae h;have HF:=ae hf;clear h hf hg;go_enter Tryz.func204,Tryz.ntmps204
 go_wp2_with fail
 go_loopg [8] n (fun gk ii wr=>∃k:Nat,b7 (gk+k=n)/\ii=.int .i64 (k:Int)/\b7 ((l.take k).all (fun x=>!p x)=true)/\b7 (Ext w wr))
 case atStart=>exact⟨0,ae e7,rfl,ae rfl,ae (Ext.refl _)⟩
 case round =>
  obtain⟨g1,K⟩:=b9 gk;subst K;obtain⟨O,Q⟩:=b9 wr;subst Q;obtain⟨k,J,rfl,HA,HX⟩:=hrel;by_cases hlt:k<n
  ·obtain⟨b,off,x,y,z,rfl,G,AB,Ba,CY⟩:=(HI.o.ext HX.o).at hlt;have HC:=ae (HF.o x y z O HX.o);have Ci:k<l.length:=by rw[HL.o];exact hlt
   cases hb:p (x,y,z)
   all_goals rw[hb]at HC
   ·have HT:=ae (show(l.take (k+1)).all (fun x=>!p x)=true by rw[iI Ci,RN,HA.o,G];simp[hb]);clear hb G;go_wp2_with fail;refine HC.o.mono ?_;rintro e w2 ⟨rfl,zJ⟩;have I:=ae (HX.o.trans zJ);clear zJ;go_wp2_with fail
    go_roundg (g1-1)
    case measure=>have:=J.o;omega
    case rel=>exact⟨k+1,ae (j1 J.o),by go_num,HT,I⟩
   ·have HT:=ae (show cl p l=(k:Int)from eQ (d:=(0,0,0)) Ci HA.o (by rw[G];exact hb));clear hb G;go_wp2_with fail;refine HC.o.mono ?_;rintro e w2 ⟨rfl,zJ⟩;have I:=ae (HX.o.trans zJ);clear zJ;go_wp2_with fail;go_ret;exact⟨ap HT.o.symm,I.o⟩
  ·have HT:=ae (show l.take k=l from p4 (by rw[HL.o];have:=J.o;omega));go_wp2_with fail;go_ret;exact⟨ap (by rw[dP];have:=HA.o;rwa [HT.o]at this),HX.o⟩
theorem mb{cap:Nat}{l:j2}{p:Int×Int×Int->Bool}(h:Bq w a n cap l)(hg:IsGo Tryz.prog fid)(hf:TJ Tryz.prog w fid ca p):
 Calls Tryz.prog 141 #[.slice a n cap,.func (.func fid) #[] ca] w fun e w'=>e=.returned (.bool (l.any p))/\Ext w w':=by
 have HC:=ae (pN h hg hf);go_enter Tryz.func141,Tryz.ntmps141
 go_wp2_with fail;refine HC.o.mono ?_;rintro e w2 ⟨rfl,zJ⟩
 go_wp2
 all_goals go_ret;refine⟨ag ?_,zJ⟩;rw[<-gG]
theorem xI:IsGo Tryz.prog 142:=isGo Tryz.func142 e9 e9
theorem O4:IsGo Tryz.prog 140:=isGo Tryz.func140 e9 e9
theorem NO(x y z s:Int){b:Nat}(hc:w.cell? ⟨b,0,none⟩=some (.int .i64 s)):
 Calls Tryz.prog 142 #[.agg #[.int .i64 x,.int .i64 y,.int .i64 z],.pointer (some ⟨b,0,none⟩)] w fun e w'=>e=.returned (.bool (x == s))/\Ext w w':=by
 have HX:=ae (Ext.alloc w (.cells #[.int .i64 x,.int .i64 y,.int .i64 z] 83));have hb:b<w.heap.size:=Kq _ _ hc;cases hq:(x == s)
 all_goals
  go_enter Tryz.func142,Tryz.ntmps142
  go_wp2_with fail;go_ret;exact⟨ag rfl,HX.o⟩
theorem Rg(s:Int){b:Nat}{cap:Nat}(hc:w.cell? ⟨b,0,none⟩=some (.slice a n cap))(h:Bq w a n cap L):
 Calls Tryz.prog 140 #[.int .i64 s,.pointer (some ⟨b,0,none⟩)] w fun e w'=>e=.returned (.bool (Bo L s))/\Ext w w':=by
 have HX:=ae (Ext.alloc w (.cells #[.int .i64 s] 3));have hb:b<w.heap.size:=Kq _ _ hc;have HC:=ae (mb (ca:=#[.pointer (some ⟨w.heap.size,0,none⟩)]) (p:=fun f=>f.1 == s) (h.ext HX.o) xI (fun x y z w1 hx=>NO x y z s (hx.j9 e8)));clear h;go_enter Tryz.func140,Tryz.ntmps140
 go_wp2_with fail;refine HC.o.mono ?_;rintro e w2 ⟨rfl,zJ⟩;have G:=ae (HX.o.trans zJ);clear zJ;go_wp2_with fail;go_ret;exact⟨rfl,G.o⟩
theorem iZ(x:Int)(a:j6)(n cap:Nat)(h4:3<=n)(hn:n<=1000){G:j6}{fn:Nat}(h:Bq w G fn Cv L):
 Calls Tryz.prog 81 #[pair x a n cap,.slice G fn Cv] w fun e w'=>(∃v,e=.returned v/\o4 w' w.heap.size v (aX L (n-2)))/\Ext w w':=by
 obtain⟨W,hW⟩:=b9 ((w.alloc (.cells #[.int .i64 x,.slice a n cap] 32)).alloc (.cells #[.slice G fn Cv] 42));have O:=ae (show W.heap.size=w.heap.size+2 by rw[hW];simp);have y7:=ae (show Ext w W by rw[hW];exact(Ext.alloc _ _).trans (Ext.alloc _ _));have I:=ae (show W.cell? ⟨w.heap.size+1,0,none⟩=some (.slice G fn Cv)by rw[hW];simp);have HF:=ae (h.ext y7.o);have HA:=ae (show FJ Tryz.prog W 140 #[.pointer (some ⟨w.heap.size+1,0,none⟩)] (Bo L)from fun s w1 hx=>Rg s (hx.j9 I.o) (HF.o.ext hx));have HC:=ae (ln (w:=W) 1 ((n:Int)-2) (n-2) e7 e7 e7 e7);rw[hW]at HC;clear h;go_enter Tryz.func81,Tryz.ntmps81
 go_wp2_with fail;refine HC.o.mono ?_;rw[<-hW];clear hW;rintro e w1 ⟨⟨v,rfl,ho⟩,zK⟩;obtain⟨a1,m,c1,rfl,hm⟩:=ho.var;have F9:0<m:=by have:=hm.out;rw[tQ]at this;omega
 obtain⟨g,rfl,_,_,_⟩:=ho.block F9;have HD:=ae (sG zK (ao _) ho F9 O4 HA.o);clear ho hm zK;go_wp2_with fail;refine HD.o.mono ?_;rintro e w2 ⟨⟨m2,rfl,J⟩,zJ⟩;have As:=ae J;have K:=ae zJ;clear J zJ;go_wp2_with fail;go_ret;exact⟨⟨_,rfl,As.o.mono (by rw[O.o];omega)⟩,y7.o.trans K.o⟩
def iu(P:Program)(w:World)(fid:FuncId)(ca:Array Value)(m:Nat)(f:Nat->Int):Prop :=
 ∀(s:Nat) (w1:World),s<m->Ext w w1->Calls P fid (#[.int .i64 (s:Int)]++ca) w1 fun e w2=>e=.returned (.int .i64 (f s))/\Ext w1 w2
theorem iu.ext{P:Program}{w':World}{m:Nat}(h:iu P w fid ca m f)(hx:Ext w w'):iu P w' fid ca m f :=
 fun s w1 hs k=>h s w1 hs (hx.trans k)
def Ag(f:Nat->Int)(m:Nat):j7:=(List.range m).map f
theorem il(f:Nat->Int)(m:Nat):Ag f (m+1)=Ag f m++[f m]:=by simp[Ag,TP]
theorem gW(f:Nat->Int)(m:Nat):(Ag f m).length=m:=by simp[Ag]
theorem QW(h1:1<=n)(h5:n<=5)(h0:f 0=0)(hb:∀s,s<cN n->-500<=f s/\f s<=500):aL (n:Int) (Ag f (cN n))=true:=by
 have hN:=bP n h5;unfold aL;rw[gW,eH n h5];simp only[xf,sw];refine⟨?_,?_,trivial,?_⟩
 ·rw[Di];intro x hx;obtain⟨s,hs,rfl⟩:=aai.1 hx;have:=hb s (S4.1 hs);unfold r9;simp;omega
 ·unfold r9;simp;omega
 ·have:0<cN n:=by omega
  simp[Ag,this,h0]
theorem an(h:w.heap[g]?=some (.cells #[x,y] t (0,0))):w.cell? ⟨g,0,none⟩=some x:=by rw[tn w g 0 _ t _ h];rfl
theorem al(h:w.heap[g]?=some (.cells #[x,y] t (0,0))):w.cell? ⟨g,1,none⟩=some y:=by rw[tn w g 1 _ t _ h];rfl
theorem jU{z:Value}(h:w.heap[g]?=some (.cells #[x,y] t (0,0))):(w.setCell ⟨g,1,none⟩ z).heap[g]?=some (.cells #[x,z] t (0,0)):=by
 rw[ta w g 1 _ t z h];rfl
def eT(w:World)(base:Nat)(e:Ending)(n:Nat)(l:j7)(b:Bool):Prop:=∃v,e=.returned (.tuple #[.agg #[.int .i64 (n:Int),v],.bool b])/\o4 w base v l
set_option maxRecDepth 100000 in
theorem lq(h1:1<=n)(h5:n<=5)(hg:IsGo Tryz.prog fid)(hf:iu Tryz.prog w fid ca (cN n) f)
 (h0:f 0=0) (hb:∀s,s<cN n->-500<=f s/\f s<=500) :
 Calls Tryz.prog 83 #[.int .i64 (n:Int),.func (.func fid) #[] ca] w fun e w'=>eT w' w.heap.size e n (Ag f (cN n)) true/\Ext w w':=by
 have hN:=bP n h5;have OI:∀(args:Array Value) (w:World),(callFunc fid args).run Tryz.prog w=.ok (.enter fid args) w:=hg;have HF:=ae hf;have A5:=ae (QW h1 h5 h0 hb);clear hf h0 hb hg;go_enter Tryz.func83,Tryz.ntmps83
 go_wp2_with (first|(go_at_call 143;refine(si n h5 _).mono ?_;rintro e w' ⟨rfl,rfl⟩))
 go_loopw [12] (fun i wr=>∃(k:Nat) (a1:j6) (G c1:Nat),k<=cN n/\i=.int .i64 (k:Int)/\b7 (o4 wr (w.heap.size+1+1) (.slice a1 G c1) (Ag f k))/\b7 (wr.heap[w.heap.size+1]?=some (.cells #[.int .i64 (n:Int),.slice a1 G c1] 32 (0,0)))/\b7 (Ext (w.alloc (.cells #[.int .i64 0,.slice none 0 0] 32)) wr)) (fun i _=>cN n-(intOf i).toNat)
 case atStart =>
  refine⟨0,none,0,0,KJ _,rfl,ae (by unfold Ag;exact⟨rfl,.inl ⟨rfl,rfl⟩⟩),ae ?_,ae ?_⟩
  ·exact ai _ _ _ e8
  ·exact Ext.alloc _ _
 case round =>
  obtain⟨k,a1,G,c1,hk,rfl,HO,HB,HX⟩:=hrel;have Q:=an HB.o;have DY:=al HB.o;have I:=mr HB.o;by_cases hlt:k<cN n
  ·go_wp2_with fail
   go_region_law (first
    | (refine bI _ rfl (bF _ _ rfl (w.heap.size+1+1) _ _ rfl (zv.o.ext (Ext.alloc _ _)) _ 1 _ [f k] rfl (Ints.one _ _ _) (by rw[gW];omega) (by simp;omega) ?_);intro v3 w3 Av EZ Ff;obtain⟨a3,n3,c3,rfl,Ia⟩:=Av.var;have O:=ae Av;have U:=ae (ak ((HX.o.trans yZ.o).trans (Ext.alloc _ _)) EZ (fun j hj=>by have:=(zv.o.lt j hj).1;simp;omega));have K:=ae ((EZ.block _ (by simp;omega) (fun e=>by have:=(zv.o.lt _ e.symm).1;omega)).trans (((Ext.alloc w1 _).block _ EW).trans J.o));have cg3:=al K.o;have fg3:=sd w3 (w.heap.size+1) 1 _ _ K.o;clear Av EZ Ff)
    | (go_simp;refine(HF.o k _ hlt (((Ext.alloc _ _).trans HX.o).trans (Ext.drew wr))).mono ?_;rintro e w1 ⟨rfl,hx⟩;have yZ:=ae ((Ext.drew wr).trans hx);have zv:=ae (HO.o.ext yZ.o);have J:=ae ((yZ.o.block _ I).trans HB.o);have b1:=al J.o;have EW:=mr J.o;clear hx))
   all_goals
    go_wp2
    go_roundw
    case rel =>
     refine⟨k+1,a3,n3,c3,by omega,by go_num,ae ?_,ae (jU K.o),ae (U.o.setCell e8 _)⟩;rw[il];exact O.o.keep fun j hj=>bB _ _ _ _ (by have:=(O.o.lt j hj).1;simp;omega)
    case measure=>simp[intOf];omega
  ·have Z:k=cN n:=by omega
   subst Z;have HV:=ae (ed (p:=(n:Int)) HO.o.ints);rw[A5.o]at HV;go_wp2_with fail;refine HV.o.mono ?_;rintro e w1 ⟨rfl,hx⟩;have zv:=ae (HO.o.ext hx);have hg0':=hx.j9 Q;have hg1':=hx.j9 DY;have yZ:=ae (HX.o.trans hx);have r0:w1.cell? ⟨w.heap.size,0,none⟩=some (.int .i64 0):=yZ.o.j9 e8;have r1:w1.cell? ⟨w.heap.size,1,none⟩=some (.slice none 0 0):=yZ.o.j9 e8;have f0:w1.frozen? ⟨w.heap.size,0,none⟩=false:=(yZ.o.zq _ _ e8).trans e8;have f1:w1.frozen? ⟨w.heap.size,1,none⟩=false:=(yZ.o.zq _ _ e8).trans e8;clear hx Q DY
   go_wp2
   refine bR (v:=.tuple #[.agg #[.int .i64 (n:Int),.slice a1 G c1],.bool true]) (by simp[results,Tryz.results83,go_sem,r0,r1]) rfl ⟨⟨_,rfl,?_⟩,?_⟩
   ·refine zv.o.mono e7 |>.keep fun j hj=>?_
    have:=(zv.o.lt j hj).1;rw[bB _ _ _ _ (by simp;omega),bB _ _ _ _ (by simp;omega)]
   ·exact((((Ext.alloc _ _).trans yZ.o).setCell e8 _).setCell e8 _)
def GM(s:Nat):Nat:=(List.range 5).countP fun k=>bit (s:Int) k
theorem vq(s:Nat):GM s<=5:=by unfold GM;exact SC acr e8
theorem rB(s:Nat)(hs:s<32)(w:World):Calls Tryz.prog 187 #[.int .u64 (s:Int)] w fun e w'=>e=.returned (.int .i64 (GM s))/\w=w':=by
 go_enter Tryz.func187,Tryz.ntmps187
 go_wp2
 go_ret;refine⟨ap ?_,rfl⟩;clear w
 revert s
 decide +kernel
theorem uE(s:Nat)(hs:s<32)(w:World):Calls Tryz.prog 122 #[.int .u64 (s:Int)] w fun e w'=>e=.returned (.int .i64 (GM s))/\w=w':=by
 go_enter Tryz.func122,Tryz.ntmps122
 go_wp2_with (first|(go_at_call 187;refine(rB s hs _).mono ?_;rintro e w' ⟨rfl,rfl⟩));go_ret;exact⟨rfl,rfl⟩
theorem wH:∀s:Fin 32,∀k:Fin 5,bit ((s.val:Nat):Int) k.val=false->bits .or .i64 ((s.val:Nat):Int) (2^k.val)=((s.val:Nat):Int)+2^k.val:=by decide +kernel
theorem or_bit{s:Nat}(hs:s<32)(hk:k<5)(h:bit (s:Int) k=false):bits .or .i64 (s:Int) (2^k)=(s:Int)+2^k:=wH ⟨s,hs⟩ ⟨k,hk⟩ h
theorem yX:∀n:Fin 6,∀s:Fin 32,∀k:Fin 5,s.val<cN n.val->k.val<n.val->bit ((s.val:Nat):Int) k.val=false->s.val+2^k.val<cN n.val:=by decide +kernel
theorem SD{s:Nat}(hn:n<=5)(hs:s<cN n)(hk:k<n)(h:bit (s:Int) k=false):s+2^k<cN n :=
 yX ⟨n,by omega⟩ ⟨s,by have:=bP n hn;omega⟩ ⟨k,by omega⟩ hs hk h
theorem xp(s:Int)(k:Nat)(h:0<=s)(h':s<=9223372036854775807):(bits BinOp.and IntKind.i64 (s/2^k) 1 == 0)=!bit s k:=by
 have h1:=lN s k h;rw[pz _ h1.1 e7];unfold bit;have:s/2^k % 2=0∨s/2^k % 2=1:=by omega
 rcases this with h|h<;>simp[h]
theorem wC(k:Nat)(h:k<=5):IntKind.i64.wrap ((2:Int)^k)=2^k:=by
 have:=fi k;have:=gj k h;rw[cn];omega
def Ex(wt:Nat->Int)(V:j7)(k:Nat):Nat->Int
 | 0=>0
 | m+1=>Ex wt V k m+(if bit (m:Int) k=true then 0 else wt (GM m)*(V[m+2^k]?.getD 0-V[m]?.getD 0))
def R8(wt:Nat->Int)(V:j7)(d:Int)(k:Nat):j8:=(aI (Ex wt V k V.length) d).1
def Gm(wt:Nat->Int)(V:j7)(d:Int)(m:Nat):j4:=(List.range m).map (R8 wt V d)
theorem qd(wt:Nat->Int)(V:j7)(d:Int):Gm wt V d 0=[]:=rfl
theorem qb(wt:Nat->Int)(V:j7)(d:Int)(m:Nat):Gm wt V d (m+1)=Gm wt V d m++[R8 wt V d m]:=by simp[Gm,TP]
theorem mR(wt:Nat->Int)(V:j7)(d:Int)(m:Nat):(Gm wt V d m).length=m:=by simp[Gm]
theorem eO(G:∀x∈V,-500<=x/\x<=500)(k:Nat):-500<=V[k]?.getD 0/\V[k]?.getD 0<=500:=by
 by_cases h:k<V.length
 ·have:=G _ (vl h);simpa[h]using this
 ·simp[G4 (by omega:V.length<=k)]
theorem px{x y:Int}(h1:-1000<=x)(h2:x<=1000)(h3:-1000<=y)(h4:y<=1000):-1000000<=x*y/\x*y<=1000000:=by
 have h:(x*y).natAbs<=1000*1000:=by rw[aaO];exact Y4 e7 e7
 omega
theorem pB{wt:Nat->Int}{V:j7}(G:∀x∈V,-500<=x/\x<=500)(hw:∀i,-1000<=wt i/\wt i<=1000)(k:Nat):∀m:Nat,-(1000000*m:Int)<=Ex wt V k m/\Ex wt V k m<=1000000*m
 | 0=>by simp[Ex]
 | m+1=>by
   have ih:=pB G hw k m;unfold Ex;have h1:=eO G (m+2^k);have h2:=eO G m;have h3:=hw (GM m);have h4:=px h3.1 h3.2 (y:=V[m+2^k]?.getD 0-V[m]?.getD 0) e7 e7
   split<;>omega
theorem ww{m cap:Nat}{wt:Nat->Int}{d:Int}(h:Ints w a m cap V)(h1:1<=n)(h5:n<=5)(hm:m=cN n)(hV:∀x∈V,-500<=x/\x<=500)(hw:∀i,-1000<=wt i/\wt i<=1000)
 (hg:IsGo Tryz.prog fid) (hf:iu Tryz.prog w fid ca 6 wt) :
 Calls Tryz.prog 65 #[pair n a m cap,.func (.func fid) #[] ca,.int .i64 d] w fun e w'=>(∃v,e=.returned v/\o0 w' w.heap.size v (Gm wt V d n))/\Ext w w':=by
 have hN:=bP n h5;have OI:∀(args:Array Value) (w:World),(callFunc fid args).run Tryz.prog w=.ok (.enter fid args) w:=hg;have hi:=h.alloc (.cells #[.int .i64 (n:Int),.slice a m cap] 32);have HX:=ae (Ext.alloc w (.cells #[.int .i64 (n:Int),.slice a m cap] 32));have HL:=ae h.hlen;have HI:=ae hi;have HF:=ae (hf.ext HX.o);have HO:=ae (o0.made (w.alloc (.cells #[.int .i64 (n:Int),.slice a m cap] 32)) (w.heap.size+1) e8);have l9:=h.l9;have l8:=h.l8;have HV:=ae hV;have HW:=ae hw;have Ho:=ae hm;have UC:m<=32:=by omega
 clear h hi hf hg hV hw hm hN;go_enter Tryz.func65,Tryz.ntmps65
 go_wp2
 go_loopw [7,17] (fun o i wr=>∃(k:Nat) (a1:j6) (O p1:Nat),k<=n/\i=.int .i64 (k:Int)/\o=.slice a1 O p1/\b7 (o0 wr (w.heap.size+1) (.slice a1 O p1) (Gm wt V d k))/\b7 (Ext (w.alloc (.cells #[.int .i64 (n:Int),.slice a m cap] 32)) wr)) (fun _ i _=>n-(intOf i).toNat)
 case atStart=>exact⟨0,_,_,_,KJ _,rfl,rfl,ae (by rw[qd];simpa using HO.o),ae (Ext.alloc _ _)⟩
 case round =>
  obtain⟨k,a1,O,p1,hk,rfl,rfl,zv,yZ⟩:=hrel;have c0:wr.cell? ⟨w.heap.size,0,none⟩=some (.int .i64 (n:Int)):=yZ.o.j9 e8;have c1:wr.cell? ⟨w.heap.size,1,none⟩=some (.slice a m cap):=yZ.o.j9 e8;by_cases hlt:k<n
  ·have Hp:=ae (HI.o.ext yZ.o);have HF1:=ae (HF.o.ext yZ.o);have hp:=fi k;have Ok:=gj k e7
   go_wp2
   go_loopw [9,23] (fun t i wr2=>∃(j:Nat),j<=m/\i=.int .i64 (j:Int)/\t=.int .i64 (Ex wt V k j)/\b7 (Ext wr wr2)) (fun _ i _=>m-(intOf i).toNat)
   case atStart=>exact⟨0,KJ _,rfl,rfl,ae (Ext.refl _)⟩
   case round =>
    obtain⟨j,hj,rfl,ht,G⟩:=hrel;obtain⟨T,Z⟩:=b9 (Ex wt V k j);have Zj:=pB HV.o HW.o k j;rw[<-Z]at ht Zj;subst ht;have HT:=ae Z;clear Z;have c1':=G.o.j9 c1;by_cases Ah:j<m
    ·have J8:=ae (Hp.o.ext G.o);obtain⟨b,off,he,hc⟩:=J8.o.at Ah;have N1:=eO HV.o j;obtain⟨v1,An⟩:=b9 (V[j]?.getD 0);rw[<-An]at hc N1;have HY1:=ae An;clear An;subst he;have hb:=xp (j:Int) k e7 e7;cases hbit:bit (j:Int) k
     ·rw[hbit]at hb;have HB:=ae hbit;have hu:=SD h5 (by rw[<-Ho.o];exact Ah) hlt hbit;have Om:=or_bit (s:=j) (k:=k) e7 e7 hbit;obtain⟨u,Q⟩:∃u:Nat,u=j+2^k:=⟨_,rfl⟩;have Yb:(j:Int)+2^k=(u:Int):=by rw[Q];simp
      have hum:u<m:=by rw[Ho.o,Q];exact hu
      rw[Yb]at Om;obtain⟨b2,off2,Y2,CY⟩:=J8.o.at hum;simp only[bA,mq,zz]at Y2;obtain⟨rfl,rfl⟩:=Y2;have X':=eO HV.o u;obtain⟨v2,EU⟩:=b9 (V[u]?.getD 0);rw[<-EU]at CY X';have ZJ:=ae EU;have HU:=ae Q;clear EU hbit hu Yb Q;have U:=HW.o (GM j);obtain⟨W,U6⟩:=b9 (wt (GM j));rw[<-U6]at U;have I:=ae U6;clear U6;have hmul:=px U.1 U.2 (y:=v2-v1) e7 e7;obtain⟨X,hX⟩:=b9 (W*(v2-v1));rw[<-hX]at hmul;have DL:=ae hX;have e1:IntKind.i64.wrap (v2-v1)=v2-v1:=by rw[cn];omega
      have e2:IntKind.i64.wrap (W*(v2-v1))=X:=by rw[<-hX,cn];omega
      have e3:IntKind.i64.wrap (T+X)=T+X:=by rw[cn];omega
      have e4:=wC k e7;have J:=ae (show IntKind.u64.wrap (j:Int)=(j:Int)by simp only[IntKind.wrap,IntKind.bits,IntKind.signed];simp;omega);have k7:Ext wr wr.drew:=Ext.drew wr;have Ya:u<=32:=by omega
      clear hX hmul U N1 X' Zj hp Ok
      go_wp2
      go_region_held3 (fun w'=>w'.cell? ⟨w.heap.size,1,none⟩=some (.slice (some ⟨b,off,none⟩) m cap)/\w'.cell? ⟨b,off+u,none⟩=some (.int .i64 v2)/\Ext wr w')
       (exact⟨k7.j9 c1',k7.j9 CY,k7⟩)
       (first
         | (go_at_call 122;rw[J.o];refine(uE j e7 _).mono ?_;rintro e w' ⟨rfl,rfl⟩)
         | (refine(HF1.o (GM j) _ (j1 (vq j)) (G.o.trans k7)).mono ?_;rw[<-I.o];rintro e w5 ⟨rfl,AK⟩;have k7:=k7.trans AK))
      go_wp2
      go_roundw
      case rel=>exact⟨j+1,by omega,by go_num,by unfold Ex;rw[HB.o,<-HT.o,<-I.o,<-HU.o,<-ZJ.o,<-HY1.o,<-DL.o];simp[go_sem,e3],ae (G.o.trans k7)⟩
      case measure=>simp[intOf];omega
     ·rw[hbit]at hb;have HB:=ae hbit;clear hbit
      go_wp2
      go_roundw
      case rel=>exact⟨j+1,by omega,by go_num,by unfold Ex;rw[HB.o,<-HT.o];simp,G⟩
      case measure=>simp[intOf];omega
    ·have Ga:j=m:=by omega
     subst Ga;obtain⟨p,q,ok,zR⟩:∃p q ok,aI T d=((p,q),ok):=⟨_,_,_,rfl⟩;have Ay:=ae zR;have KC:=ae (yZ.o.trans G.o);have As:=ae (zv.o.ext G.o);have D4:w.heap.size+1<=wr.heap.size:=by have:=KC.o.size;simpa using this
     clear zR;go_wp2_with fail;refine(jN _ _ _).mono ?_;rw[Ay.o];rintro e w3 ⟨rfl,K⟩;have X3:=ae (KC.o.trans K);have zi:=ae (As.o.ext K);have Fs:=K.size;clear K
     go_wp2_with (first
      | (at_builtin;refine aM rfl _ _ rfl (w.heap.size+1) (.slice a1 O p1) _ rfl ((zi.o.ext (Ext.alloc _ _)).ext (Ext.alloc _ _)) _ 1 _ [(p,q)] rfl (Rats.one' _ _ _ _ _ e8) (by rw[mR];omega) (by simp;omega) ?_;intro v2 w4 ho hg k9;obtain⟨a2,n2,c2,rfl,Gu⟩:=ho.var;have Ar:=ae ho;have Lk:=ae hg;clear ho hg k9))
     go_roundw
     case rel =>
      refine⟨k+1,a2,n2,c2,by omega,by go_num,rfl,ae ?_,ae ?_⟩
      ·rw[qb,R8,HL.o,<-HT.o,Ay.o];exact Ar.o
      ·exact ak (X3.o.trans ((Ext.alloc _ _).trans (Ext.alloc _ _))) Lk.o (fun j hj=>by have:=(zi.o.lt j hj).1;simpa using this)
     case measure=>simp[intOf];omega
  ·go_wp2
   go_ret;have zQ:k=n:=by omega
   subst zQ;exact⟨⟨_,rfl,zv.o.mono e7⟩,HX.o.trans yZ.o⟩
theorem oT{n d:Int}(h:(aI n d).2=false):(aI n d).1=(0,0):=by
 have hc:∀p,(Bf p).2=false->(Bf p).1=(0,0):=fun p h=>by unfold Bf at h⊢;split at h<;>simp_all
 unfold aI at h⊢
 split at h
 ·next h1=>rw[hI h1]
 ·next h1 =>
  rw[hD h1]
  split at h
  ·next h2=>rw[hI h2];exact hc _ h
  ·next h2=>rw[hD h2];exact hc _ h
theorem ys(n d:Int):-1000000000<=(aI n d).1.1/\(aI n d).1.1<=1000000000:=by
 cases h:(aI n d).2
 ·rw[oT h];simp
 ·have:=aQ (jB h);omega
theorem tZ(a b:j8):-1000000000<=(zI a b).1.1/\(zI a b).1.1<=1000000000:=by
 unfold zI;split
 ·exact ys _ _
 ·simp
abbrev Mg:=Int×Int×Bool×Int×Int
def Gl:Enc Mg:=⟨fun x=>[.int .i64 x.1,.int .i64 x.2.1,.bool x.2.2.1,.int .i64 x.2.2.2.1,.int .i64 x.2.2.2.2],5,fun _=>rfl,by omega,fun x u h=>by simp only[aaL,aaz,adg]at h;rcases h with rfl|rfl|rfl|rfl|rfl<;>rfl⟩
theorem Tryz.KU:(Tryz.prog.info? 125).map (fun i=>(i.zero,i.size,i.bytes))=some (some (.agg #[.int .i64 0,.int .i64 0,.bool false,.int .i64 0,.int .i64 0]),5,40):=by kernel_rfl
def fV(V:j7)(f:Int×Int×Int):j8:=(zI f.2 (V[f.1.toNat]?.getD 0,1)).1
def BL(s:Int)(c:j8):List Mg:=[(s,1,false,c.1,c.2),(s,-1,false,-c.1,c.2)]
def bC(V:j7)(l:j7):List Mg:=l.map fun s=>(s,1,true,-(V[s.toNat]?.getD 0),1)
def aN(V:j7)(L:j2):List Mg:=L.flatMap fun f=>BL f.1 (fV V f)
def dj(V:j7)(L:j2):List Mg:=bC V (aX L (V.length-2))++aN V L++BL ((V.length:Int)-1) (-(V[V.length-1]?.getD 0),1)
def fF(V:j7)(L:j2)(k:Nat):List Mg:=bC V (aX L (V.length-2))++aN V (L.take k)
theorem mv(V:j7)(h:k<l.length):bC V (l.take k)++[(l[k]?.getD 0,1,true,-(V[(l[k]?.getD 0).toNat]?.getD 0),1)]=bC V (l.take (k+1)):=by
 rw[cu h];simp[bC]
theorem dB(V:j7)(l:j7):(bC V l).length=l.length:=by simp[bC]
theorem eV(V:j7):∀L:j2,(aN V L).length=2*L.length
 | []=>rfl
 | f::L=>by
   have:=eV V L;simp only[aN,aar,pk,BL,OX,aap]at this⊢;omega
theorem vQ(V:j7)(h:k<L.length){f:Int×Int×Int}(e:L[k]?.getD (0,0,0)=f):fF V L k++BL f.1 (fV V f)=fF V L (k+1):=by
 subst e;unfold fF aN;rw[iI h];simp
theorem o4.Vh{w':World}{base':Nat}{v G:Value}{α:Type}{E:Enc α}{I:List α}(h:o4 w base v l)(h':zd E t w base' G I)(hne:3≠t)(hg:w.grownBy w' G.ownBlock):o4 w' base v l :=
 h.keep fun k hk=>hg.block k (h.lt k hk).2 fun e=>bh hne h h' k hk e.symm
theorem tL(x:Int){cap:Nat}(hV:Ints w a n cap V)(Qo:∀y∈V,-500<=y/\y<=500)(h2:2<=n)(hn:n<=1000){fa:j6}{fn:Nat}(h:Bq w fa fn Cv L)(hL:∀f∈L,1<=f.1/\f.1+2<=n)(hfn:fn<=1048576):
 Calls Tryz.prog 111 #[pair x a n cap,.slice fa fn Cv] w fun e w'=>(∃v,e=.returned v/\zd Gl 125 w' w.heap.size v (dj V L))/\Ext w w':=by
 obtain⟨W,hW⟩:=b9 (w.alloc (.cells #[.int .i64 x,.slice a n cap] 32));have HW:=ae hW;have Z:=ae (show W.heap.size=w.heap.size+1 by rw[hW];simp);have y7:=ae (show Ext w W by rw[hW];exact Ext.alloc _ _);have IE:=ae (show W.cell? ⟨w.heap.size,1,none⟩=some (.slice a n cap)by rw[hW];simp);have ID:=ae (show W.cell? ⟨w.heap.size,0,none⟩=some (.int .i64 x)by rw[hW];simp);have AM:=ae hV.hlen;have Jq:=hV.l8;have Jp:=hV.l9;have OC:=h.l8;have OB:=h.l9;have HV:=ae (hV.ext y7.o);have Eg:=ae Qo;have Bu:=ae h.hlen;have HF:=ae (h.ext y7.o);have AO:=ae hL;have HO:=ae (zd.Az Gl 125 W (w.heap.size+1) (w.heap.size+1) Z.o.symm (by rw[Z.o];exact ao _));have L8:=ae (lC (w:=W.alloc (.cells #[] 125)) x a n cap hn (HF.o.ext (Ext.alloc _ _)));have FF:=ae (dU L (n-2));have Ho:=ae (fun s=>jx (L:=L) (m:=n-2) (s:=s));rw[hW]at L8;clear h hL hV Qo;go_enter Tryz.func111,Tryz.ntmps111
 go_wp2_with fail;refine L8.o.mono ?_;rw[<-hW];clear hW;rintro e w1 ⟨⟨vf,rfl,RJ⟩,zK⟩;obtain⟨af,m,cf,rfl,WA⟩:=RJ.var;have V5:=ae (RJ.mono (base':=w.heap.size+1) (by rw[V4,Z.o];omega));have Jc:=ae WA.out;have X1:=ae ((Ext.alloc W _).trans zK);have zv:=ae (HO.o.ext zK);have YF:=RJ.ints.l8;have YE:=RJ.ints.l9;have YG:m<=1000:=by have:=FF.o;have:=Jc.o;omega
 clear RJ zK WA L8;go_wp2_with fail
 go_loopg [5,7] m (fun gk oo ii wr=>∃(k:Nat) (a1:j6) (Q p1:Nat),b7 (gk+k=m)/\ii=.int .i64 (k:Int)/\oo=.slice a1 Q p1/\b7 (zd Gl 125 wr (w.heap.size+1) (.slice a1 Q p1) (bC V ((aX L (n-2)).take k)))/\b7 (o4 wr (w.heap.size+1) (.slice af m cf) (aX L (n-2)))/\b7 (Ext W wr))
 case atStart=>exact⟨0,_,_,_,ae e7,rfl,rfl,zv,V5,X1⟩
 case round =>
  obtain⟨g1,o7⟩:=b9 gk;subst o7;obtain⟨o6,o5⟩:=b9 wr;subst o5;obtain⟨k,a1,Q,p1,U,rfl,rfl,A5,TA,HX⟩:=hrel;have hsz:=HX.o.size;rw[Z.o]at hsz;have hcv:o6.cell? ⟨w.heap.size,1,none⟩=some (.slice a n cap):=HX.o.j9 IE.o;by_cases hlt:k<m
  ·obtain⟨b,off,he,J0⟩:=TA.o.ints.at hlt;subst he;obtain⟨s,hs⟩:=b9 ((aX L (n-2))[k]?.getD 0);rw[<-hs]at J0;have Ci:k<(aX L (n-2)).length:=by rw[Jc.o];exact hlt
   have hsm:=Ho.o s (by rw[hs,bk Ci];exact vl Ci);obtain⟨t,rfl⟩:∃t:Nat,s=t:=⟨s.toNat,by omega⟩;have Ul:t<n:=by omega
   obtain⟨K,G,Qg,J⟩:=HV.o.at Ul;subst Qg;have GU:=eO Eg.o t;obtain⟨y,hy⟩:=b9 (V[t]?.getD 0);rw[<-hy]at J GU;have HVC:=ae J;replace J:=HX.o.j9 J
   have Bw:=ae (show bC V ((aX L (n-2)).take k)++[((t:Int),1,true,-y,1)]=bC V ((aX L (n-2)).take (k+1))by
    rw[<-mv V Ci,<-hs,hy];rfl)
   have Kj:IntKind.i64.wrap (-y)=-y:=by rw[cn];omega
   have Ib:=ae (show(bC V ((aX L (n-2)).take k)).length<=1000 by rw[dB,FX];have:=FF.o;omega);have k7:Ext o6 o6.drew:=Ext.drew o6;clear hs hsm hy Ci;have H8:=ae (show some b≠(Value.slice a1 Q p1).ownBlock from fun e=>bh (by decide) TA.o A5.o b rfl e.symm);have BR:Ext W o6:=HX.o;have k8:=ae (fun(w':World) (h:Ext W w') (hc:w'.cell? ⟨b,off+k,none⟩=some (.int .i64 (t:Int)))=>(⟨h.j9 IE.o,hc,h.j9 HVC.o,h⟩:w'.cell? ⟨w.heap.size,1,none⟩=some (.slice (some ⟨K,G,none⟩) n cap)/\w'.cell? ⟨b,off+k,none⟩=some (.int .i64 (t:Int))/\w'.cell? ⟨K,G+t,none⟩=some (.int .i64 y)/\Ext W w'));go_wp2_with fail
   go_region_held3 (fun w'=>w'.cell? ⟨w.heap.size,1,none⟩=some (.slice (some ⟨K,G,none⟩) n cap)/\w'.cell? ⟨b,off+k,none⟩=some (.int .i64 (t:Int))/\w'.cell? ⟨K,G+t,none⟩=some (.int .i64 y)/\Ext W w')
    (first
      | with_reducible exact k8.o _ (BR.trans k7) (k7.j9 J0)
      | with_reducible exact k8.o _ (BR.trans (k7.trans (Ext.alloc _ _))) ((k7.trans (Ext.alloc _ _)).j9 J0)
      | with_reducible exact k8.o _ X5.o V'.o)
    (first
      | (go_at_call 49
         (with_reducible refine(cO _ _).mono ?_)
         rintro e w3 ⟨rfl,zm⟩;have k7:Ext o6 w3:=k7.trans zm
         have F6:=k7.size)
      | (refine bI _ j0 ?_
         refine fS Gl Tryz.KU rfl Tryz.underlying122 (by decide) _ _ j0 (w.heap.size+1) (.slice a1 Q p1) _ j0 (A5.o.ext (k7.trans (Ext.alloc _ _))) _ 1 1 [((t:Int),1,true,-y,1)] j0 (BU.lit Gl _ _ _ 1 j0 _ j0 _ j0 e7) (j1 Ib.o) (by simp;omega) ?_;intro v5 w5 ho hg k9;have P4:=ae ((TA.o.ext (k7.trans (Ext.alloc _ _))).Vh (A5.o.ext (k7.trans (Ext.alloc _ _))) (by decide) hg);have V':=ae (hg.cell ((k7.trans (Ext.alloc _ _)).j9 J0) H8.o);obtain⟨a5,n5,p5,rfl,CF⟩:=ho.var;have zW:=ae ho;have X5:=ae (ak (w0:=W) (HX.o.trans (k7.trans (Ext.alloc _ _))) hg (fun j hj=>by have:=A5.o.lt j hj;rw[Z.o];omega))
         clear ho hg k9)
      | fail)
   clear BR;go_wp2_with fail
   go_roundg (g1-1)
   case measure=>have:=U.o;omega
   case rel=>exact⟨k+1,a5,n5,p5,ae (j1 U.o),by go_num,rfl,ae (by rw[<-Bw.o];exact zW.o),P4,X5⟩
  ·have Cr:k=m:=by have:=U.o;omega
   subst Cr
   have AT:=ae (show bC V ((aX L (n-2)).take k)=fF V L 0 by
    have:(aX L (n-2)).take k=aX L (n-2):=p4 (by rw[Jc.o];exact ao _)
    rw[this];unfold fF;rw[AM.o];simp[aN])
   rw[AT.o]at A5
   have CV:=ae (fun j=>show(fF V L j).length<=1000+2*fn by
    unfold fF;rw[pk,dB,eV,FX,AM.o];have:=FF.o;have:=Bu.o;omega)
   clear Jc TA U;go_wp2_with fail
   go_loopg [5,8] (fn+1) (fun gk oo ii wr=>∃(k:Nat) (a1:j6) (Q p1:Nat),b7 (gk+k=fn+1)/\ii=.int .i64 (k:Int)/\oo=.slice a1 Q p1/\b7 (zd Gl 125 wr (w.heap.size+1) (.slice a1 Q p1) (if k<=fn then fF V L k else dj V L))/\b7 (Ext W wr))
   case atStart=>exact⟨0,_,_,_,ae e7,rfl,rfl,ae (by rw[hI e7];exact A5.o),HX⟩
   case round =>
    obtain⟨g2,Am⟩:=b9 gk;subst Am;obtain⟨I,zx⟩:=b9 wr;subst zx;obtain⟨k,a2,n2,p2,U,rfl,rfl,LX,O⟩:=hrel;have D4:=O.o.size;rw[Z.o]at D4;have US:I.cell? ⟨w.heap.size,1,none⟩=some (.slice a n cap):=O.o.j9 IE.o;by_cases hle:k<=fn
    ·rw[hI hle]at LX;obtain⟨u,hu⟩:=b9 (n-1);have hnu:(n:Int)-1=(u:Int):=by omega
     have EJ:u<n:=by omega
     obtain⟨K,G,Qg,J⟩:=HV.o.at EJ;subst Qg;have GU:=eO Eg.o u;obtain⟨y,hy⟩:=b9 (V[u]?.getD 0);rw[<-hy]at J GU;have HVC:=ae J;replace J:=O.o.j9 J;have HU:=ae hu;have HY:=ae hy;have Kj:IntKind.i64.wrap (-y)=-y:=by rw[cn];omega
     clear hu hy
     go_upto_if 59 with(first|(go_at_call 49;refine(cO _ _).mono ?_;rintro e w3 ⟨rfl,zm⟩;have F6:=zm.size))
     have EO:=ae (ah.new zm (-y) 1);have hcv3:=zm.j9 US
     go_cut [9,10] (fun ss cc wx=>∃(S:Int) (g:Nat) (p q:Int),ss=.int .i64 S/\cc=.pointer (some ⟨g,0,none⟩)/\b7 (ah I wx g p q)/\b7 (fF V L k++BL S (p,q)=if k+1<=fn then fF V L (k+1) else dj V L)/\b7 (-1000000000<=p/\p<=1000000000))
     case first =>
      by_cases Ah:k<fn
      ·obtain⟨fb,Gj,c,fx,fy,UO,RK,OE,OD,Mn⟩:=HF.o.at Ah;subst UO;have Ci:k<L.length:=by rw[Bu.o];exact Ah
       have Iu:=AO.o (c,fx,fy) (by rw[<-RK,bk Ci];exact vl Ci);simp only at Iu;obtain⟨t,rfl⟩:∃t:Nat,c=t:=⟨c.toNat,by omega⟩;have Ul:t<n:=by omega
       obtain⟨KQ,voff',Qg,Km⟩:=HV.o.at Ul;simp only[bA,mq,zz]at Qg;obtain⟨rfl,rfl⟩:=Qg;obtain⟨z,hz⟩:=b9 (V[t]?.getD 0);rw[<-hz]at Km;obtain⟨p,q,ok,zR⟩:∃p q ok,zI (fx,fy) (z,1)=((p,q),ok):=⟨_,_,_,rfl⟩;have Ay:=ae zR;have VO:=ae (show -1000000000<=p/\p<=1000000000 by have:=tZ (fx,fy) (z,1);rw[zR]at this;exact this)
       have WX:=ae (show fF V L k++BL (t:Int) (p,q)=fF V L (k+1)by
        rw[<-vQ V Ci RK];unfold fV;simp only;rw[show((t:Int)).toNat=t by simp,<-hz,zR])
       have XW:=ae (O.o.trans zm);replace OE:=XW.o.j9 OE;have kf1:=O.o.j9 OD;have kf2:=O.o.j9 Mn;have kvt:=O.o.j9 Km;replace OD:=XW.o.j9 OD;replace Mn:=XW.o.j9 Mn;replace Km:=XW.o.j9 Km;have hfl:fb<w3.heap.size:=Kq _ _ OE;have SR:K<w3.heap.size:=Kq _ _ Km;have q8:ah I (w3.alloc (.cells #[.int .i64 (-y),.int .i64 1] 62)).drew w3.heap.size (-y) 1:=EO.o.grow (Ext.drew _);have k7:=q8.ext;clear RK Ci Iu hz zR hnu J;have k8:=ae (fun(w':World) (h:Ext I w')=>(⟨h.j9 US,h.j9 kf1,h.j9 kf2,h.j9 kvt,h⟩:w'.cell? ⟨w.heap.size,1,none⟩=some (.slice (some ⟨K,G,none⟩) n cap)/\w'.cell? ⟨fb,Gj+k*3+1,none⟩=some (.int .i64 fx)/\w'.cell? ⟨fb,Gj+k*3+2,none⟩=some (.int .i64 fy)/\w'.cell? ⟨K,G+t,none⟩=some (.int .i64 z)/\Ext I w'));clear kf1 kf2 kvt;go_wp2_with fail
       go_region_held3 (fun w'=>w'.cell? ⟨w.heap.size,1,none⟩=some (.slice (some ⟨K,G,none⟩) n cap)/\w'.cell? ⟨fb,Gj+k*3+1,none⟩=some (.int .i64 fx)/\w'.cell? ⟨fb,Gj+k*3+2,none⟩=some (.int .i64 fy)/\w'.cell? ⟨K,G+t,none⟩=some (.int .i64 z)/\Ext I w')
        (first
          | with_reducible exact k8.o _ k7
          | with_reducible exact k8.o _ (q8.put _ _).ext)
        (first
          | (go_at_call 49
             (with_reducible refine(cO _ _).mono ?_)
             rintro e w4 ⟨rfl,zX⟩;have q8:=q8.grow zX;have k7:=q8.ext;have Cn:=q8.c0;have AS:=q8.c1
             have U0:=q8.free)
          | (go_at_call 180
             (with_reducible refine(tJ _ _ _ _ _).mono ?_)
             rw[Ay.o];rintro e w5 ⟨rfl,AK⟩;have q8:=q8.grow AK;have k7:=q8.ext;have Cn:=q8.c0;have AS:=q8.c1
             have U0:=q8.free)
          | fail)
       go_wp2_with fail;go_meet;exact⟨_,_,_,_,rfl,rfl,ae (q8.put _ _),ae (by rw[hI e7];exact WX.o),VO⟩
      ·have Ww:k=fn:=by omega
       subst Ww;go_wp2_with fail;go_meet
       exact⟨_,_,_,_,rfl,rfl,EO,ae (by
        rw[hD e7];unfold fF dj;rw[p4 (by rw[Bu.o];exact ao _),AM.o,<-HU.o,<-HY.o];rw[hnu]),ae e7⟩
     obtain⟨S,g,p,q,rfl,rfl,HB,HS,VO⟩:=hcut;have SZ:=VO.o;have Cn:=HB.o.c0;have AS:=HB.o.c1;have XC:=ae (O.o.trans HB.o.ext);have Fk:=ae (LX.o.ext HB.o.ext);have H8:=ae (au Fk.o HB.o.cell (by decide));have P9:=ae (CV.o k);have BR:Ext W wc:=XC.o;have k7:Ext wc wc.drew:=Ext.drew wc;have G7:=XC.o.size;rw[Z.o]at G7;have k8:=ae (fun(w':World) (h:Ext W w') (h0:w'.cell? ⟨g,0,none⟩=some (.int .i64 p)) (h1:w'.cell? ⟨g,1,none⟩=some (.int .i64 q))=>(⟨h0,h1,h⟩:w'.cell? ⟨g,0,none⟩=some (.int .i64 p)/\w'.cell? ⟨g,1,none⟩=some (.int .i64 q)/\Ext W w'));clear hcv3 US J hnu;go_wp2_with fail
     go_region_held3 (fun w'=>w'.cell? ⟨g,0,none⟩=some (.int .i64 p)/\w'.cell? ⟨g,1,none⟩=some (.int .i64 q)/\Ext W w')
      (first
        | with_reducible exact k8.o _ (BR.trans k7) (k7.j9 Cn) (k7.j9 AS)
        | with_reducible exact k8.o _ (BR.trans (k7.trans (Ext.alloc _ _))) ((k7.trans (Ext.alloc _ _)).j9 Cn) ((k7.trans (Ext.alloc _ _)).j9 AS)
        | with_reducible exact k8.o _ X5.o V'.o HC6.o)
      (first
        | (go_at_call 51
           (with_reducible refine(fm _ _ _ e7 e7).mono ?_)
           rintro e w4 ⟨rfl,zX⟩;have k7:Ext wc w4:=k7.trans zX
           have Us:=k7.size)
        | (refine bI _ j0 ?_
           refine fS Gl Tryz.KU rfl Tryz.underlying122 (by decide) _ _ j0 (w.heap.size+1) (.slice a2 n2 p2) _ j0 (Fk.o.ext (k7.trans (Ext.alloc _ _))) _ 2 2 (BL S (p,q)) j0 (BU.lit Gl _ _ _ 2 j0 _ j0 _ j0 e7) (j1 P9.o) (by simp;omega) ?_;intro v5 w5 ho hg k9;have V':=ae (hg.cell ((k7.trans (Ext.alloc _ _)).j9 Cn) H8.o);have HC6:=ae (hg.cell ((k7.trans (Ext.alloc _ _)).j9 AS) H8.o);obtain⟨a5,n5,p5,rfl,CF⟩:=ho.var;have zW:=ae ho;have X5:=ae (ak (w0:=W) (XC.o.trans (k7.trans (Ext.alloc _ _))) hg (fun j hj=>by have:=Fk.o.lt j hj;rw[Z.o];omega))
           clear ho hg k9)
        | fail)
     clear BR;go_wp2_with fail
     go_roundg (g2-1)
     case measure=>have:=U.o;omega
     case rel=>exact⟨k+1,a5,n5,p5,ae (j1 U.o),by go_num,rfl,ae (by rw[<-HS.o];exact zW.o),X5⟩
    ·have Ww:k=fn+1:=by have:=U.o;omega
     have hnle:¬((k:Int)<=(fn:Int)):=by omega
     rw[hD hle]at LX;go_wp2_with fail;go_ret;exact⟨⟨_,rfl,LX.o.mono (Cj _)⟩,y7.o.trans O.o⟩
