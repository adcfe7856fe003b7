import Derived.Test.YtdadoignenffgaaGreatDoorEbAllG6
import Derived.Test.YtdadoignenffgaaGreatDoorEbAllG3
import Derived.Test.YtdadoignenffgaaGreatDoorEbAllG7
import Derived.StillTailTactics
import Derived.Test.YtdadoignenffgaaGreatDoorEbAllG23
import Derived.Test.YtdadoignenffgaaGreatDoorEbAllG9
import Derived.Deep.RegionLaw
import Derived.Laws.EntriesVeiled
set_option linter.unusedVariables false
set_option linter.unusedSimpArgs false
namespace Go.Proofs.YtdadoignenffgaaGreatDoor
variable{V:j7}{w:World}{a:j6}{n k Cv:Nat}{L:j2}
set_option maxHeartbeats 16000000
open Go.RowKit
theorem Xr(k:Nat)(h:k<=5)(w:World):Calls Tryz.prog 43 #[.int .i64 (k:Int)] w fun e w'=>e=.returned (.int .i64 (2^k))/\w=w':=by
 have:=vB k w
 rwa [eH k h,iP]at this
def pos(ord:j7)(k:Nat):Nat:=(ord[k]?.getD 0).toNat
theorem NJ:∀n:Fin 6,∀s:Fin 32,∀k:Fin 5,s.val<cN n.val->k.val<n.val->bit ((s.val:Nat):Int) k.val=false ->
 s.val+cN k.val<cN n.val/\bits .or .i64 ((s.val:Nat):Int) (2^k.val)=((s.val+cN k.val:Nat):Int)/\∀j:Fin 5,bit ((s.val+cN k.val:Nat):Int) j.val=(bit ((s.val:Nat):Int) j.val||decide (j.val=k.val)):=by decide +kernel
theorem join(n s k:Nat)(hn:n<=5)(hs:s<cN n)(hk:k<n)(hb:bit (s:Int) k=false):
 s+cN k<cN n/\bits .or .i64 (s:Int) (2^k)=((s+cN k:Nat):Int)/\∀j,j<5->bit ((s+cN k:Nat):Int) j=(bit (s:Int) j||decide (j=k)):=by
 have h:=NJ ⟨n,by omega⟩ ⟨s,by have:=bP n hn;omega⟩ ⟨k,by omega⟩ hs hk hb;exact⟨h.1,h.2.1,fun j hj=>h.2.2 ⟨j,hj⟩⟩
theorem wh{p:Int}(h:aL p V=true):∀i:Nat,-500<=V[i]?.getD 0/\V[i]?.getD 0<=500:=fun i=>by
 obtain⟨_,_,_,_,_,_,G⟩:=bQ h;by_cases hi:i<V.length
 ·have:=G _ (vl hi);simpa[hi]using this
 ·simp[G4 (by omega:V.length<=i)]
set_option maxRecDepth 100000
theorem Bq.take{cap:Nat}{l:j2}(h:Bq w a n cap l)(hk:k<=n):Bq w a k cap (l.take k) :=
 ⟨by have:=h.hlen;simp;omega,by have:=h.l8;omega,h.l9,fun j hj=>by
  obtain⟨b,off,e,hc⟩:=h.cell j e7;refine⟨b,off,e,fun i hi=>?_⟩;have:=hc i e7
  rwa [aao,hI hi]⟩
theorem Bq.drewN{cap:Nat}{l:j2}(h:Bq w a n cap l)(m:Nat):Bq (w.drewN m) a n cap l:=h.ext (aac (Ext.refl w) m)
def Ek(L:j2)(hi:Int)(k:Nat):Bool:=(List.range k).all fun i=>r9 (L[i]?.getD (0,0,0)).1 1 hi&&!Bo (L.take i) (L[i]?.getD (0,0,0)).1
theorem qK(L:j2)(hi:Int)(k:Nat):Ek L hi (k+1)=(Ek L hi k&&(r9 (L[k]?.getD (0,0,0)).1 1 hi&&!Bo (L.take k) (L[k]?.getD (0,0,0)).1)):=by simp[Ek,TP]
theorem iE{hi:Int}{m:Nat}(h:(r9 (L[k]?.getD (0,0,0)).1 1 hi&&!Bo (L.take k) (L[k]?.getD (0,0,0)).1)=false)(hk:k<m):Ek L hi m=false:=by
 rw[Ek,abg];exact⟨k,S4.2 hk,by rw[h];simp⟩
theorem Nt{hi:Int}(h:Ek L hi L.length=true):∀f∈L,1<=f.1/\f.1<=hi:=by
 intro f hf;obtain⟨k,hk,rfl⟩:=acO hf;have:=(Di.1 h) k (S4.2 hk);rw[bk hk]at this;simp only[l',xf,r9,sw]at this;exact this.1
def ea(p:Int)(V:j7)(L:j2):Bool:=aL p V&&(decide (2<=p)&&(Ek L ((V.length:Int)-2) L.length&&decide (0<(aX L (V.length-2)).length)))
theorem Lc(h2:2<=n)(h5:n<=5):4<=cN n:=by
 have:n=2∨n=3∨n=4∨n=5:=by omega
 rcases this with rfl|rfl|rfl|rfl<;>decide
theorem yH{p:Int}{cap:Nat}(J:Ints w a n cap V){fa:j6}{fn:Nat}(h:Bq w fa fn Cv L)(hfn:fn<=1048576):
 Calls Tryz.prog 110 #[pair p a n cap,.slice fa fn Cv] w fun e w'=>e=.returned (.bool (ea p V L))/\Ext w w':=by
 obtain⟨W,hW⟩:=b9 (w.alloc (.cells #[.int .i64 p,.slice a n cap] 32));have Ai:=ae (show W.heap.size=w.heap.size+1 by rw[hW];simp);have y7:=ae (show Ext w W by rw[hW];exact Ext.alloc _ _);have IE:=ae (show W.cell? ⟨w.heap.size,1,none⟩=some (.slice a n cap)by rw[hW];simp);have Q:=ae (show W.cell? ⟨w.heap.size,0,none⟩=some (.int .i64 p)by rw[hW];simp);have AM:=ae J.hlen;have Jq:=J.l8;have Jp:=J.l9;have OC:=h.l8;have OB:=h.l9;have Bu:=ae h.hlen;have HF:=ae (h.ext y7.o);have HC:=ae (es (p:=p) (J.ext y7.o));have FQ:=ae (J.ext y7.o);clear h J;cases hg:aL p V
 ·have HG:=ae (show ea p V L=false by unfold ea;rw[hg];rfl);rw[hg,hW]at HC;clear hg;go_enter aeE,aei
  go_wp2_with fail;refine HC.o.mono ?_;rw[<-hW];rintro e w1 ⟨rfl,G⟩;go_wp2_with fail;go_ret;exact⟨ag HG.o.symm,y7.o.trans G⟩
 ·obtain⟨q,hq,h1,h5,hlen,_,A4⟩:=bQ hg;have Ss:=ae hg;rw[hg,hW]at HC;clear hg;by_cases Ux:p<2
  ·have HG:=ae (show ea p V L=false by unfold ea;rw[Ss.o,u' (by omega:¬2<=p)];rfl);clear hq hlen A4;go_enter aeE,aei
   go_wp2_with fail;refine HC.o.mono ?_;rw[<-hW];rintro e w1 ⟨rfl,G⟩;have AB:=G.j9 Q.o;go_wp2_with fail;go_ret;exact⟨ag HG.o.symm,y7.o.trans G⟩
  ·have Ju:4<=n:=by have:=Lc (n:=q) e7 h5;rw[<-AM.o,hlen];exact this
   have Ft:n<=32:=by have:=bP q h5;rw[<-AM.o,hlen];exact this.2
   clear hq hlen A4;go_enter aeE,aei
   go_wp2_with fail;refine HC.o.mono ?_;rw[<-hW];rintro e w1 ⟨rfl,G⟩;have yZ:=ae G;have AB:=G.j9 Q.o;clear G;have HW:=ae hW;clear hW;go_wp2_with fail;clear AB
   go_loopg [5] fn (fun gk ii wr=>∃k:Nat,b7 (gk+k=fn)/\ii=.int .i64 (k:Int)/\b7 (Ek L ((n:Int)-2) k=true)/\b7 (Ext W wr))
   case atStart=>exact⟨0,ae e7,rfl,ae rfl,yZ⟩
   case round =>
    obtain⟨g1,o7⟩:=b9 gk;subst o7;obtain⟨O,o5⟩:=b9 wr;subst o5;obtain⟨k,U,rfl,HO,HX⟩:=hrel;have hcv:O.cell? ⟨w.heap.size,1,none⟩=some (.slice a n cap):=HX.o.j9 IE.o;by_cases hlt:k<fn
    ·have I:=ae (HF.o.ext HX.o);obtain⟨b,off,c,x,y,rfl,K,OE,OD,Mn⟩:=I.o.at hlt;have Kj:IntKind.i64.wrap ((n:Int)-2)=(n:Int)-2:=by rw[cn];omega
     cases hb:r9 c 1 ((n:Int)-2)
     ·have HG:=ae (show ea p V L=false by
       unfold ea;rw[Bu.o,AM.o,iE (k:=k) (m:=fn) (by rw[K];simp only;rw[hb];rfl) hlt];simp)
      clear K
      go_wp2
      go_quiet ((first|(go_at_call 45;exact aU (aZ _ _ _ _))))
      go_wp2
      go_ret;exact⟨ag HG.o.symm,y7.o.trans (HX.o.trans (Bj.ext ⟨_,rfl⟩))⟩
     ·cases hh:Bo (L.take k) c
      ·have HN:=ae (show Ek L ((n:Int)-2) (k+1)=true by rw[qK,HO.o,K];simp only;rw[hb,hh];rfl);clear K
       go_wp2
       go_quiet ((first|(go_at_call 45;exact aU (aZ _ _ _ _))|(go_at_call 113;exact aU (nK ((I.o.drewN _).take e7) _))))
       go_wp2
       go_roundg (g1-1)
       case measure=>have:=U.o;omega
       case rel=>exact⟨k+1,ae (j1 U.o),by go_num,HN,ae (HX.o.trans (Bj.ext ⟨_,rfl⟩))⟩
      ·have HG:=ae (show ea p V L=false by
        unfold ea;rw[Bu.o,AM.o,iE (k:=k) (m:=fn) (by rw[K];simp only;rw[hh];simp) hlt];simp)
       clear K
       go_wp2
       go_quiet ((first|(go_at_call 45;exact aU (aZ _ _ _ _))|(go_at_call 113;exact aU (nK ((I.o.drewN _).take e7) _))))
       go_wp2
       go_ret;exact⟨ag HG.o.symm,y7.o.trans (HX.o.trans (Bj.ext ⟨_,rfl⟩))⟩
    ·have Ww:k=fn:=by have:=U.o;omega
     subst Ww;have hcw:O.cell? ⟨w.heap.size,0,none⟩=some (.int .i64 p):=HX.o.j9 Q.o;have Z:=ae (lC (w:=O) p a n cap e7 (HF.o.ext HX.o))
     have HG:=ae (show ea p V L=decide (0<(aX L (n-2)).length)by
      unfold ea;rw[Ss.o,Bu.o,AM.o,HO.o,z' (show 2<=p by omega)];simp)
     go_wp2_with fail;refine Z.o.mono ?_;rintro e w2 ⟨⟨v,rfl,ho⟩,zJ⟩;obtain⟨af,m,cf,rfl,hm⟩:=ho.var;have HM:=ae hm.out;clear ho hm;have F9:decide ((m:Int) > 0)=decide (0<(aX L (n-2)).length):=by rw[HM.o];rw[U9];simp
     clear F9;go_wp2_with fail;go_ret;exact⟨ag (by rw[HG.o,HM.o]),y7.o.trans (HX.o.trans zJ)⟩
def Nu(q k:Nat)(c:Mg):Bool:=if k<q then BC c.1 (k:Int) else c.2.2.1
def Cs(r7:List Mg)(q k:Nat):j7:=r7.map fun c=>c.2.1*zA (Nu q k c)
def stA(q:Nat)(V:j7)(L:j2):j5:=(List.range (q+1)).map (Cs (dj V L) q)
def KR(q:Nat):j7:=(List.range (q+1)).map fun k=>zA (decide (k=q))
def Fc(V:j7)(L:j2):j4:=(dj V L).map fun c=>c.2.2.2
def Al(p:Int)(V:j7)(L:j2):Bool:=ea p V L&&Bb (Fc V L)
def GL(p:Int)(V:j7)(L:j2):j5:=if Al p V L=true then stA p.toNat V L else []
def GK(p:Int)(V:j7)(L:j2):j7:=if Al p V L=true then KR p.toNat else []
def GJ(p:Int)(V:j7)(L:j2):j4:=if Al p V L=true then Fc V L else []
def nY(w:World)(base:Nat)(e:Ending)(A:j5)(B:j7)(C:j4)(ok:Bool):Prop :=
 ∃va vb vc vs,e=.returned (.tuple #[.agg #[va,vb,vc],.bool ok])/\zC w base va vs/\bL w base vs A/\o4 w base vb B/\o0 w base vc C/\Ez vs vb
theorem rL(hn:V.length=n)(h1:1<=n)(G:∀f∈L,1<=f.1/\f.1+2<=n):∀c∈dj V L,(c.2.1=1∨c.2.1=-1)/\0<=c.1/\c.1<=n:=by
 intro c hc;unfold dj at hc;simp only[aa']at hc
 rcases hc with(hc|hc)|hc
 ·obtain⟨s,hs,rfl⟩:=aai.1 hc;have:=jx hs;exact⟨.inl rfl,by simp only;omega,by simp only;omega⟩
 ·obtain⟨f,hf,h2⟩:=adi.1 hc;have:=G f hf;simp only[BL,aaL,aaz,adg]at h2
  rcases h2 with rfl|rfl
  ·exact⟨.inl rfl,by simp only;omega,by simp only;omega⟩
  ·exact⟨.inr rfl,by simp only;omega,by simp only;omega⟩
 ·simp only[BL,aaL,aaz,adg]at hc
  rcases hc with rfl|rfl
  ·exact⟨.inl rfl,by simp only;omega,by simp only;omega⟩
  ·exact⟨.inr rfl,by simp only;omega,by simp only;omega⟩
theorem xx(V:j7)(L:j2):(dj V L).length<=V.length+2*L.length+2:=by
 unfold dj;have:=dU L (V.length-2);rw[pk,pk,dB,eV];simp only[BL,OX,aap];omega
theorem Q8{q:Nat}{b:Bool}(h:b=decide (k=q)):((k:Int) == (q:Int))=b:=by
 subst h;by_cases e:k=q
 ·subst e;simp
 ·rw[u' e];simp;omega
theorem kG{α β:Type}(f:α->β){l:List α}{x:α}(h:l[k]?=some x):(l.take k).map f++[f x]=(l.take (k+1)).map f:=by rw[eX h];simp
theorem yF{p:Int}{cap:Nat}(hV:Ints w a n cap V){fa:j6}{fn:Nat}(h:Bq w fa fn Cv L)(hfn:fn<=1048576):
 Calls Tryz.prog 54 #[pair p a n cap,.slice fa fn Cv] w fun e w' =>
  nY w' w.heap.size e (GL p V L) (GK p V L) (GJ p V L) (Al p V L)/\Ext w w':=by
 obtain⟨W,hW⟩:=b9 ((w.alloc (.cells #[.int .i64 p,.slice a n cap] 32)).alloc (.cells #[.slice none 0 0,.slice none 0 0,.slice none 0 0] 68));have I:=ae (show W.heap.size=w.heap.size+2 by rw[hW];simp);have y7:=ae (show Ext w W by rw[hW];exact(Ext.alloc _ _).trans (Ext.alloc _ _));have IE:=ae (show W.cell? ⟨w.heap.size,1,none⟩=some (.slice a n cap)by rw[hW];simp);have ID:=ae (show W.cell? ⟨w.heap.size,0,none⟩=some (.int .i64 p)by rw[hW];simp);have PC:=ae (show W.heap[w.heap.size+1]?=some (.cells #[.slice none 0 0,.slice none 0 0,.slice none 0 0] 68 (0,0))by rw[hW];exact ai _ _ _ e8);have AM:=ae hV.hlen;have Jq:=hV.l8;have Jp:=hV.l9;have OC:=h.l8;have OB:=h.l9;have Bu:=ae h.hlen;have HF:=ae (h.ext y7.o);have FQ:=ae (hV.ext y7.o);have HC:=ae (yH (p:=p) (hV.ext y7.o) (h.ext y7.o) hfn);clear h hV;cases hg:ea p V L
 ·have HG:=ae (show Al p V L=false by unfold Al;rw[hg];rfl);rw[hg,hW]at HC;clear hg;go_enter Tryz.func54,Tryz.ntmps54
  go_wp2_with fail;refine HC.o.mono ?_;rw[<-hW];rintro e O ⟨rfl,Q⟩;have A':O.cell? ⟨w.heap.size+1,0,none⟩=some (.slice none 0 0):=by rw[tn O _ 0 _ _ _ ((Q.block _ (by rw[I.o];omega)).trans PC.o)];rfl
  have AX:O.cell? ⟨w.heap.size+1,1,none⟩=some (.slice none 0 0):=by rw[tn O _ 1 _ _ _ ((Q.block _ (by rw[I.o];omega)).trans PC.o)];rfl
  have B9:O.cell? ⟨w.heap.size+1,2,none⟩=some (.slice none 0 0):=by rw[tn O _ 2 _ _ _ ((Q.block _ (by rw[I.o];omega)).trans PC.o)];rfl
  have GA:∀j,O.frozen? ⟨w.heap.size+1,j,none⟩=false:=fun j=>sd O _ j _ _ ((Q.block _ (by rw[I.o];omega)).trans PC.o)
  have yZ:=ae (y7.o.trans Q);have EW:=Q.size;rw[I.o]at EW;clear Q;go_wp2_with fail;refine bR (v:=.tuple #[.agg #[.slice none 0 0,.slice none 0 0,.slice none 0 0],.bool false]) (by simp[results,ad0,go_sem,A',AX,B9]) rfl ⟨⟨_,_,_,[],by rw[HG.o],zC.nil _ _,?_,?_,?_,Ez.nil _⟩,?_⟩
  ·unfold GL;rw[HG.o,hD e8];exact bL.nil _ _
  ·unfold GK;rw[HG.o,hD e8];exact o4.nil _ _
  ·unfold GJ;rw[HG.o,hD e8];exact o0.nil _ _
  ·exact((yZ.o.setCell e8 _).setCell e8 _).setCell e8 _
 ·have hgo:aL p V=true/\2<=p/\Ek L ((V.length:Int)-2) L.length=true:=by
   unfold ea at hg;simp only[xf,sw]at hg;exact⟨hg.1,hg.2.1,hg.2.2.1⟩
  obtain⟨q,rfl,h1,h5,hlen,_,A4⟩:=bQ hgo.1;have h2q:2<=q:=by omega
  have Ju:4<=n:=by have:=Lc h2q h5;rw[<-AM.o,hlen];exact this
  have Ft:n<=32:=by have:=bP q h5;rw[<-AM.o,hlen];exact this.2
  have WH:∀f∈L,1<=f.1/\f.1+2<=n:=fun f hf=>by have:=Nt hgo.2.2 f hf;have:=AM.o;omega
  have Ea:=ae (fun(O:World) (hx:Ext W O)=>tL (w:=O) (q:Int) (FQ.o.ext hx) A4 e7 e7 (HF.o.ext hx) WH hfn);have Z9:=ae (show Al (q:Int) V L=Bb (Fc V L)by unfold Al;rw[hg];rfl);obtain⟨r7,Cu⟩:=b9 (dj V L);have FI:=ae (rL AM.o e7 WH);have Sy:=ae (xx V L);rw[<-Cu]at Ea FI Sy;have TD:=ae Cu;rw[hg,hW]at HC;clear hg hgo hlen A4 WH Cu;go_enter Tryz.func54,Tryz.ntmps54
  go_wp2_with fail;refine HC.o.mono ?_;rw[<-hW];clear hW;rintro e O ⟨rfl,Q⟩;have yZ:=ae Q;have AB:=Q.j9 ID.o;have Ba:=Q.j9 IE.o;clear Q HC;go_wp2_with fail;clear AB Ba;refine(Ea.o O yZ.o).mono ?_;rintro e w2 ⟨⟨vcs,rfl,Rx⟩,zJ⟩;obtain⟨ac,m,cc,rfl,hm⟩:=Rx.var;have HM:=ae hm.out;have zt:=ae (yZ.o.trans zJ);have D4:=zt.o.size;rw[I.o]at D4;have Fk:=ae ((Rx.mono (base':=w.heap.size+2) (by have:=yZ.o.size;rw[I.o]at this;omega)).ext (Ext.alloc w2 (.cells #[.slice none 0 0,.slice none 0 0,.slice none 0 0] 68)));have hccap:=Rx.Ej.l8;have hcmax:=Rx.Ej.l9;have YG:m<=3000000:=by have h1:=Sy.o;have h2:=HM.o;have h3:=AM.o;have h4:=Bu.o;omega
  have I':=ae (zD.new (w:=w2) (base:=w.heap.size+2) D4);clear Rx hm zJ Ea;go_wp2_with fail
  go_loopg [8] (q+1) (fun gk ii wr=>∃(k:Nat) (va vb:Value) (vs:List Value),b7 (gk+k=q+1)/\ii=.int .i64 (k:Int)/\b7 (zD wr (w.heap.size+2) w2.heap.size va vb (.slice none 0 0) vs ((List.range k).map (Cs r7 q)) ((List.range k).map fun k=>zA (decide (k=q))) [])/\b7 (zd Gl 125 wr (w.heap.size+2) (.slice ac m cc) r7)/\b7 (Ext W wr))
  case atStart=>exact⟨0,_,_,_,ae e7,rfl,I',Fk,ae (zt.o.trans (Ext.alloc _ _))⟩
  case round =>
   obtain⟨g1,o7⟩:=b9 gk;subst o7;obtain⟨Z,o5⟩:=b9 wr;subst o5;obtain⟨k,va,vb,vs,HK,rfl,EF,A5,HX⟩:=hrel;have F4:=HX.o.size;rw[I.o]at F4;have OH:Z.cell? ⟨w.heap.size,0,none⟩=some (.int .i64 (q:Int)):=HX.o.j9 ID.o;obtain⟨aA,nA,cA,rfl,Tw⟩:=EF.o.a.var;obtain⟨aB,nB,cB,rfl,IK⟩:=EF.o.b.var;by_cases hkq:k<=q
   ·have Z3:=ae (o4.Az Z Z.heap.size _ rfl (ao _));go_wp2_with fail
    go_loopg [9,10] m (fun gk row jj wr=>∃(j:Nat) (a1:j6) (n1 p1:Nat),b7 (gk+j=m)/\jj=.int .i64 (j:Int)/\row=.slice a1 n1 p1/\b7 (o4 wr Z.heap.size (.slice a1 n1 p1) (Cs (r7.take j) q k))/\b7 (Ext Z wr))
    case atStart=>exact⟨0,_,_,_,ae e7,rfl,rfl,Z3,ae (Ext.alloc _ _)⟩
    case round =>
     obtain⟨g2,Am⟩:=b9 gk;subst Am;obtain⟨wr2,zx⟩:=b9 wr;subst zx;obtain⟨j,a1,n1,p1,HJ,rfl,rfl,Tr,G⟩:=hrel;have Fs:=G.o.size;have Y7:=G.o.j9 OH;by_cases Ga:j<m
     ·obtain⟨cb,Ew,⟨c0,U,fr,cx,cy⟩,S',Gc,hcc⟩:=(A5.o.ext G.o).Ej.at Ga;subst S';have k0:wr2.cell? ⟨cb,Ew+j*5,none⟩=some (.int .i64 c0):=hcc 0 _ rfl;have k1:wr2.cell? ⟨cb,Ew+j*5+1,none⟩=some (.int .i64 U):=hcc 1 _ rfl;have k2:wr2.cell? ⟨cb,Ew+j*5+2,none⟩=some (.bool fr):=hcc 2 _ rfl;have Iu:=FI.o (c0,U,fr,cx,cy) (aaf Gc);simp only at Iu;obtain⟨DQ,hc00,hc0n⟩:=Iu;have Eh:=ae DQ;obtain⟨on,hon⟩:=b9 (Nu q k (c0,U,fr,cx,cy));have HON:=ae hon;have Bw:=ae (show Cs (r7.take j) q k++[U*zA on]=Cs (r7.take (j+1)) q k by rw[hon];exact kG _ Gc);have Br:=ae (show(Cs (r7.take j) q k).length<=3000000 by unfold Cs;rw[zo,FX];have:=HM.o;omega);have H8:=ae (show some cb≠(Value.slice a1 n1 p1).ownBlock from fun e=>bh (e:=3) (e':=125) (by decide) Tr.o (A5.o.ext G.o) cb e.symm rfl);clear hcc Gc hon DQ
      go_upto_if 43 with fail
      go_cut [11] (fun bb wx=>bb=.bool on/\b7 (Ext wr2 wx))
      case first =>
       by_cases hlt:k<q
       ·have hrw:BC c0 (k:Int)=on:=by rw[HON.o];unfold Nu;rw[hI hlt]
        go_wp2_with (first|(go_at_call 40;refine(cw _ _ _ e7).mono ?_;rw[hrw];rintro e w' ⟨rfl,rfl⟩));go_meet;exact⟨rfl,ae (Ext.refl _)⟩
       ·have H5:fr=on:=by rw[HON.o];unfold Nu;rw[hD hlt]
        subst H5;go_wp2_with fail;go_meet;exact⟨rfl,ae (Ext.refl _)⟩
      obtain⟨rfl,E7⟩:=hcut;replace k1:=E7.o.j9 k1;have k7:Ext Z wc.drew:=(G.o.trans E7.o).trans (Ext.drew _);have hmul:IntKind.i64.wrap (U*zA on)=U*zA on:=by
       rw[cn];have h1:=Eh.o;cases on<;>rcases h1 with rfl|rfl<;>decide
      have k8:=ae (fun(w':World) (h:Ext Z w') (h1:w'.cell? ⟨cb,Ew+j*5+1,none⟩=some (.int .i64 U))=>(⟨h1,h⟩:w'.cell? ⟨cb,Ew+j*5+1,none⟩=some (.int .i64 U)/\Ext Z w'));have ZZ:=ae (Tr.o.ext E7.o);have BR:Ext wc wc.drew:=Ext.drew wc;have RD:Ext wc (wc.alloc (.cells #[.int .i64 (U*zA on)] 3)).drew:=(Ext.alloc _ _).trans (Ext.drew _);have Le:=ae (G.o.trans E7.o);have G7:=Le.o.size;have V2:=ae k1;clear k0 k2 k7;go_wp2_with fail
      go_region_held3 (fun w'=>w'.cell? ⟨cb,Ew+j*5+1,none⟩=some (.int .i64 U)/\Ext Z w')
       (first
         | with_reducible exact k8.o _ (Le.o.trans BR) (BR.j9 V2.o)
         | with_reducible exact k8.o _ (Le.o.trans RD) (RD.j9 V2.o)
         | with_reducible exact k8.o _ Jz Za)
       (first
         | (go_at_call 104
            (with_reducible refine(fk _ _).mono ?_)
            rintro e w4 ⟨rfl,rfl⟩)
         | (refine bI _ j0 ?_
            refine bF _ _ j0 Z.heap.size (.slice a1 n1 p1) _ j0 (ZZ.o.ext RD) _ 1 _ [U*zA on] j0 ((Ints.CL wc _ _ _ rfl).ext (Ext.drew _)) (j1 Br.o) (by simp;omega) ?_;intro v5 w5 ho hg k9;have Za:=hg.cell (RD.j9 V2.o) H8.o;obtain⟨a5,n5,p5,rfl,CF⟩:=ho.var;have zW:=ae ho;have Jz:=ak (w0:=Z) (Le.o.trans RD) hg (fun j hj=>(ZZ.o.lt j hj).1)
            clear ho hg k9)
         | fail)
      have X5:=ae Jz;clear Jz Za RD;clear BR;go_wp2_with fail
      go_roundg (g2-1)
      case measure=>have:=HJ.o;omega
      case rel=>exact⟨j+1,a5,n5,p5,ae (j1 HJ.o),by go_num,rfl,ae (by rw[<-Bw.o];exact zW.o),X5⟩
     ·have F':j=m:=by have:=HJ.o;omega
      subst F';have HT:=ae (show r7.take j=r7 from p4 (by rw[HM.o];exact ao _));rw[HT.o]at Tr;have Ac:=ae (EF.o.ext G.o);have Cn:=Ac.o.c0;have KL:=ae (show vs.length<=6 by rw[EF.o.rows.len,zo,acg];omega);have LX:=ae (A5.o.ext G.o);have XR:=ae (HX.o.trans G.o)
      go_wp2_with (first
       | (at_builtin;refine fu rfl _ _ rfl (w.heap.size+2) (.slice aA nA cA) vs rfl (Ac.o.a.ext (Ext.alloc _ _)) _ _ 1 rfl (by simp;rfl) rfl (j1 KL.o) (by simp;omega) ?_;intro v6 w6 ho hg k9;have IM:=ae (EF.o.FV (G.o.trans (Ext.alloc _ _)) (Tr.o.ext (Ext.alloc _ _)) e7 hg ho k9);have Fi:=Ac.o.Kz (Ext.alloc _ _) hg;have WC:=zD.BK Fi;have hf6:=zD.Cw Fi 0;have Z':=ae ((LX.o.Gi (Ext.alloc _ _) Ac.o.a (by decide) hg).M4 Fi (by decide) 0 v6);have X6:=ae (((XR.o.trans (Ext.alloc _ _)).grown hg (fun j hj=>by rw[I.o];exact(EF.o.a.lt j hj).1)).store (b:=w2.heap.size) 0 (by rw[I.o];exact D4) v6);obtain⟨a6,n6,p6,rfl,H'⟩:=ho.var;clear ho hg k9 Fi))
      have hcp7:=Ext.j9 X6.o ID.o;have hb7:=IM.o.c1;clear WC hf6 Cn Y7;obtain⟨w7,DE⟩:=b9 (w6.setCell ⟨w2.heap.size,0,none⟩ (.slice a6 n6 p6));have HOK7:=ae (show zd Gl 125 w7 (w.heap.size+2) (.slice ac j cc) r7 by rw[DE];exact Z'.o);rw[<-DE]at IM X6 hcp7 hb7;rw[<-DE];clear Z' DE;have hglt:=IM.o.lt;have Yd:=X6.o.size;rw[I.o]at Yd;obtain⟨bq,hbq⟩:=b9 (decide (k=q));have hbe:((k:Int) == (q:Int))=bq:=Q8 hbq;have HBQ:=ae hbq;have EI:=ae (show((List.range k).map fun k=>zA (decide (k=q))).length<=6 by simp;omega);clear hbq
      go_region_law (first
       | (refine bI _ rfl (bF _ _ rfl (w.heap.size+2) (.slice aB nB cB) _ rfl ((IM.o.b.ext (Ext.alloc _ _)).ext (Ext.drew _)) _ 1 _ [zA bq] rfl ((Ints.CL _ _ _ _ rfl).ext (Ext.drew _)) (j1 EI.o) (by simp;omega) ?_);intro v8 w8 ho hg k9;have XA:=(Ext.alloc w7 (.cells #[.int .i64 (zA bq)] 3)).trans (Ext.drew _);have V1:=ae (IM.o.pushB XA hg ho k9);have Et:=IM.o.LI XA hg;have hc8:=zD.BJ Et;have hf8:=zD.Cw Et 1;have VT:=ae ((HOK7.o.O1 XA IM.o.b (by decide) hg).M4 Et (by decide) 1 v8);have X8:=ae (((X6.o.trans XA).grown hg (fun j hj=>by rw[I.o];exact(IM.o.b.lt j hj).1)).store (b:=w2.heap.size) 1 (by rw[I.o];exact D4) v8);obtain⟨a8,n8,p8,rfl,IL⟩:=ho.var;clear ho hg k9 Et)
       | (go_simp;go_at_call 104;refine(fk _ _).mono ?_;rintro e w' ⟨rfl,rfl⟩))
      all_goals
       go_wp2
       go_roundg (g1-1)
       case measure=>have:=HK.o;omega
       case rel=>exact⟨k+1,_,_,_,ae (j1 HK.o),by go_num,ae (by rw[TP,We,We];have:=V1.o;rw[HBQ.o]at this;exact this),VT,X8⟩
   ·have hkq':k=q+1:=by have:=HK.o;omega
    have hnkq:¬((k:Int)<=(q:Int)):=by omega
    subst hkq';obtain⟨AA,hAA⟩:=b9 ((List.range (q+1)).map (Cs r7 q));obtain⟨BB,q8⟩:=b9 ((List.range (q+1)).map fun k=>zA (decide (k=q)))
    rw[<-hAA,<-q8]at EF;have HAA:=ae (show AA=stA q V L by rw[hAA,TD.o];rfl);have DC:=ae (show BB=KR q from q8);clear hAA q8;go_wp2_with fail
    go_loopg [12] m (fun gk jj wr=>∃(j:Nat) (vc:Value),b7 (gk+j=m)/\jj=.int .i64 (j:Int)/\b7 (zD wr (w.heap.size+2) w2.heap.size (.slice aA nA cA) (.slice aB nB cB) vc vs AA BB ((r7.take j).map fun c=>c.2.2.2))/\b7 (zd Gl 125 wr (w.heap.size+2) (.slice ac m cc) r7)/\b7 (Ext W wr))
    case atStart=>exact⟨0,_,ae e7,rfl,EF,A5,HX⟩
    case round =>
     obtain⟨g3,D8⟩:=b9 gk;subst D8;obtain⟨wr3,B4⟩:=b9 wr;subst B4;obtain⟨j,vc,HJ,rfl,K,zi,G⟩:=hrel;have Fs:=G.o.size;rw[I.o]at Fs;have hglt:=K.o.lt;have AD:=K.o.c2;obtain⟨aC,nC,cC,rfl,HNC⟩:=K.o.c.var;by_cases Ga:j<m
     ·obtain⟨cb,Ew,⟨c0,U,fr,cx,cy⟩,S',Gc,hcc⟩:=zi.o.Ej.at Ga;subst S';have k3:wr3.cell? ⟨cb,Ew+j*5+3,none⟩=some (.int .i64 cx):=hcc 3 _ rfl;have k4:wr3.cell? ⟨cb,Ew+j*5+4,none⟩=some (.int .i64 cy):=hcc 4 _ rfl;have WB:cb<wr3.heap.size:=Kq _ _ k3;have Bw:=ae (show((r7.take j).map fun c=>c.2.2.2)++[(cx,cy)]=(r7.take (j+1)).map fun c=>c.2.2.2 from kG (fun c:Mg=>c.2.2.2) Gc);have Br:=ae (show((r7.take j).map fun c=>c.2.2.2).length<=3000000 by rw[zo,FX];have:=HM.o;omega);clear hcc Gc;go_wp2_with fail
      go_region_law (first
       | (refine bI _ rfl (dr _ _ rfl (w.heap.size+2) (.slice aC nC cC) _ rfl ((K.o.c.ext (Ext.alloc _ _)).ext (Ext.drew _)) _ 1 _ [(cx,cy)] rfl ((Rats.one' _ _ _ _ _ rfl).ext (Ext.drew _)) (j1 Br.o) (by simp;omega) ?_);intro v8 w8 ho hg k9;have XA:=(Ext.alloc wr3 (.cells #[.int .i64 cx,.int .i64 cy] 62)).trans (Ext.drew _);have V1:=ae (K.o.SJ XA hg ho);have Et:=K.o.Zz XA hg;have hc8:=zD.BI Et;have hf8:=zD.Cw Et 2;have VT:=ae ((zi.o.OZ XA K.o.c (by decide) hg).M4 Et (by decide) 2 v8);have X8:=ae (((G.o.trans XA).grown hg (fun j hj=>by rw[I.o];exact(K.o.c.lt j hj).1)).store (b:=w2.heap.size) 2 (by rw[I.o];exact D4) v8);obtain⟨a8,n8,p8,rfl,IL⟩:=ho.var;clear ho hg k9 Et))
      all_goals
       go_wp2
       go_roundg (g3-1)
       case measure=>have:=HJ.o;omega
       case rel=>exact⟨j+1,_,ae (j1 HJ.o),by go_num,ae (by rw[<-Bw.o];exact V1.o),VT,X8⟩
     ·have F':j=m:=by have:=HJ.o;omega
      subst F'
      have HT:=ae (show(r7.take j).map (fun c=>c.2.2.2)=Fc V L by
       rw[p4 (by rw[HM.o];exact ao _),TD.o];rfl)
      rw[HT.o]at K;have QK:=ae (ku K.o.c.zj);have V5:=ae (K.o);have G8:(w.heap.size+1)<W.heap.size:=by rw[I.o];omega
      have zF:=ae (fun(w':World) (hx:Ext W w')=>(hx.block _ G8).trans PC.o);clear AD;cases WE:Bb (Fc V L)
      ·have FE:=ae (show Al (q:Int) V L=false by rw[Z9.o,WE]);rw[WE]at QK;clear WE;have AD:=K.o.c2;go_wp2_with fail;refine QK.o.mono ?_;rintro e w4 ⟨rfl,J⟩;have A':=zD.BK (zF.o w4 (G.o.trans J));have AX:=zD.BJ (zF.o w4 (G.o.trans J));have B9:=zD.BI (zF.o w4 (G.o.trans J));have GA:=zD.Cw (zF.o w4 (G.o.trans J));have XF:=ae (y7.o.trans (G.o.trans J));clear J;go_wp2_with fail;refine bR (v:=.tuple #[.agg #[.slice none 0 0,.slice none 0 0,.slice none 0 0],.bool false]) (by simp[results,ad0,go_sem,A',AX,B9]) rfl ⟨⟨_,_,_,[],by rw[FE.o],zC.nil _ _,?_,?_,?_,Ez.nil _⟩,?_⟩
       ·unfold GL;rw[FE.o,hD e8];exact bL.nil _ _
       ·unfold GK;rw[FE.o,hD e8];exact o4.nil _ _
       ·unfold GJ;rw[FE.o,hD e8];exact o0.nil _ _
       ·exact((XF.o.store 0 e7 _).store 1 e7 _).store 2 e7 _
      ·have KE:=ae (show Al (q:Int) V L=true by rw[Z9.o,WE]);rw[WE]at QK;clear WE;have AD:=K.o.c2;go_wp2_with fail;refine QK.o.mono ?_;rintro e w4 ⟨rfl,J⟩;have A':=zD.BK (zF.o w4 (G.o.trans J));have AX:=zD.BJ (zF.o w4 (G.o.trans J));have B9:=zD.BI (zF.o w4 (G.o.trans J));have GA:=zD.Cw (zF.o w4 (G.o.trans J));have Sp:=ae (K.o.ext J);have FP:=Sp.o.c0;have Ir:=Sp.o.c1;have RO:=Sp.o.c2;have hgl4:=Sp.o.lt;have XF:=ae (y7.o.trans (G.o.trans J));clear J AD;go_wp2_with fail;refine bR (v:=.tuple #[.agg #[.slice aA nA cA,.slice aB nB cB,.slice aC nC cC],.bool true]) (by simp[results,ad0,go_sem,A',AX,B9]) rfl ⟨⟨_,_,_,vs,by rw[KE.o],?_,?_,?_,?_,Sp.o.off⟩,?_⟩
       ·exact(((((zC.on Sp.o.a).set e8 _).set e8 _).set e8 _).here).mono' e7
       ·unfold GL;rw[KE.o,hI rfl,CI,<-HAA.o];exact(((((bL.on Sp.o.rows).set e8 _).set e8 _).set e8 _).here).mono' e7
       ·unfold GK;rw[KE.o,hI rfl,CI,<-DC.o];exact(((((o4.on Sp.o.b).set e8 _).set e8 _).set e8 _).here).mono e7
       ·unfold GJ;rw[KE.o,hI rfl];exact(((((o0.on Sp.o.c).set e8 _).set e8 _).set e8 _).here).mono e7
       ·exact((XF.o.store 0 e7 _).store 1 e7 _).store 2 e7 _
theorem iW{b:Nat}{v u:Value}{t:TypeId}(h:w.heap[b]?=some (.cells #[v] t (0,0))):(w.setCell ⟨b,0,none⟩ u).heap[b]?=some (.cells #[u] t (0,0)):=one_setCell h
section
variable{w w':World}{base bn bN bo bw n m c m' c':Nat}{p:j7}{L:j5}{a a':j6}{vs:List Value}
end
