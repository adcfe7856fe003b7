import Derived.Test.YtooiaklfmodcbaaGreatDoorRtAllG28
set_option linter.all false
set_option maxHeartbeats 6000000
set_option maxRecDepth 100000
namespace Go.Proofs.YtooiaklfmodcbaaGreatDoor
open Ending renaming returned->ar
open List renaming length->JL
open Obj renaming cells->QD
open Value renaming slice->GI,bool->bl,string->aE,pointer->aP
open Go.Proofs.Tryz Go.RowKit
variable{σ:Prop}
section
def o5(h:σ:=by simp[results,results134,go_sem,Eb,Eh,FZ]<;>rfl):σ:=h
def Rw(h:σ:=by
 refine xt ⟨by rfl,?_⟩;intro w hSw;(try dsimp only at hSw);go_simp;(try with_reducible rfl)
 ):σ:=h
variable{W Wc Wd:J}{B z n k f:Nat}{va vc:arQ}{us rs:List arQ}{A:l8}{C pt:l7}{V:o3}{L:k9}
structure Tw(W Wc:J)(B z:Nat)(va:arQ)(us rs:List arQ)(A:l8)(vc:arQ)(C:l7):Prop where
 out:DQ Wc B va us
 rows:bF Wc B rs A
 top:∀i k,i<A.length->(rs[i]?.getD undef).ownBlock=some k->k<z
 c:WV Wc B vc C
 ext:C7 W Wc
 hz:z<=Wc.heap.size
theorem Tw.more(h:Tw W Wc B z va us rs A vc C)(hx:C7 Wc Wd):Tw W Wd B z va us rs A vc C :=
 ⟨h.out.ext hx,h.rows.ext hx,h.top,h.c.ext hx,h.ext.trans hx,fy h.hz hx.size⟩
theorem Tw.push{We:J}{OD:arQ}{H:List arQ}(h:Tw W Wc B z va us rs A vc C)(hx:C7 Wc Wd)(hg:Wd.grownBy We va.ownBlock)(ho:DQ We B OD H)(K:W.heap.size<=B):Tw W We B z OD H rs A vc C:=by
 have E:=h.more hx;refine⟨ho,E.rows.keep λi k hi G=>hg.block k ((E.rows.row i hi).lt k G).2 λe=>(E.rows.row i hi).apart E.out k G e.symm,h.top,?_,E.ext.grown hg λk G=>fy K (E.out.lt k G).1,fy E.hz hg.size⟩;exact E.c.keep λk G=>hg.block k (E.c.lt k G).2 λe=>aL Fd E.c E.out k G e.symm
theorem Tw.acg{We:J}(h:Tw W Wc B z va us rs A vc C)(hx:C7 Wc Wd){vT:arQ}{l:o3}(H:r' Wd z vT l)(hg:Wd.grownBy We vT.ownBlock)(VY:W.heap.size<=z):Tw W We B z va us rs A vc C:=by
 have G:=h.more hx;refine⟨G.out.keep λk E=>hg.block k (G.out.lt k E).2 λe=>H.apart G.out k e.symm E,G.rows.keep λi k hi E=>hg.block k ((G.rows.row i hi).lt k E).2 λe=>?_,h.top,G.c.keep λk E=>hg.block k (G.c.lt k E).2 λe=>aL Fd G.c H k E e.symm,G.ext.grown hg λk E=>fy VY (H.lt k E).1,fy G.hz hg.size⟩;have h2:=h.top i k hi E;have h3:=(H.lt k e.symm).1;omega
theorem Tw.start{E Jw:J}{a:l9}{N cap:Nat}{G:List arQ}{vl:arQ}{l:o3}(H:Io E B a N cap G A)(hx:C7 E Jw)(K:r' Jw E vl l)(hb:B<=E.heap.size)(hc:WV Jw B vc C)(Z:C7 W Jw):
 Tw W Jw B Jw (GI a N cap) G (G++[vl]) (A++[l]) vc C :=
 have hr:=H.rows.snoc hx K hb
 ⟨H.own.ext hx,hr,λi k hi Q=>((hr.row i hi).lt k Q).2,hc,Z,i8 _⟩
theorem d9.ac1{w:J}{x:Int}(h:w.cell? (O n 0)=some (U x)):d9 w (some (O n 0)) 1 1 [x] :=
 ⟨rfl,i8 _,by omega,λk E=>⟨n,0,rfl,λk E=>by
  obtain rfl:k=0:=j0
  exact h⟩⟩
theorem tN{p:Int}(h:E0 p V L=true):OH p V L=N2 p.toNat V L/\OG p V L=Sp p.toNat/\OF p V L=Mi V L:=by unfold OH OG OF;rw[h];exact⟨rfl,rfl,rfl⟩
theorem xd{α β:Type}(f:α->β)(A B T:List α):(A++B).map f++T.map f=(A++(B++T)).map f:=by simp
theorem UJ{p:Int}(hg:eP p V L=true)(E:JL V=n)(H:1<=n)(G:∀y∈V,-500<=y/\y<=500):E0 p V L=(Jh n L).all (RX V):=by
 unfold E0;rw[hg,BL E H G];rfl
theorem Ct{w:J}{p:Int}{a:l9}{cap:Nat}(hV:d9 w a n cap V){fa:l9}{fn IV:Nat}(h:GC w fa fn IV L)(hfn:fn<=1048576):
 Calls prog 134 #[FS p a n cap,.slice fa fn IV] w λe w' =>
  qK w' w.heap.size e (OH p V L) (OG p V L) (OF p V L) (E0 p V L)/\C7 w w':=by
 obtain⟨W,hW⟩:=e9 ((w.alloc (.cells #[.int .i64 p,.slice a n cap] 31)).alloc (.cells #[.slice none 0 0,.slice none 0 0,.slice none 0 0] 105));have DW:=I (show W.heap.size=w.heap.size+2 by rw[hW];simp);have A8:=I (show C7 w W by rw[hW];exact(C7.alloc _ _).trans (C7.alloc _ _));have NZ:=I (show W.cell? ⟨w.heap.size,1,none⟩=some (.slice a n cap)by rw[hW];simp);have M3:=I (show W.cell? ⟨w.heap.size,0,none⟩=some (.int .i64 p)by rw[hW];simp);have R5:=I (show W.heap[w.heap.size+1]?=some (.cells #[.slice none 0 0,.slice none 0 0,.slice none 0 0] 105 (0,0))by rw[hW];exact ai _ _ _ j7);have HVL:=I hV.hlen;have ND:=hV.r8;have NC:=hV.r9;have WI:=h.r8;have WH:=h.r9;have GK:=I h.hlen;have HF:=I (h.ext A8.o);have I6:=I (hV.ext A8.o);have HC:=I (bV (p:=p) (hV.ext A8.o));have J':(w.heap.size+1)<W.heap.size:=by rw[DW.o];omega
 have DO:=I (λ(w':J) (hx:C7 W w')=>(hx.block _ J').trans R5.o)
 have Fi:=I (λ(w':J) (hx:C7 W w') (hno:E0 p V L=false) (e:Ending) (he:e=.returned (.tuple #[.agg #[.slice none 0 0,.slice none 0 0,.slice none 0 0],.bool false])) =>
  show qK (((w'.setCell ⟨w.heap.size+1,0,none⟩ (.slice none 0 0)).setCell ⟨w.heap.size+1,1,none⟩ (.slice none 0 0)).setCell ⟨w.heap.size+1,2,none⟩ (.slice none 0 0)) w.heap.size e (OH p V L) (OG p V L) (OF p V L) (E0 p V L)/\C7 w (((w'.setCell ⟨w.heap.size+1,0,none⟩ (.slice none 0 0)).setCell ⟨w.heap.size+1,1,none⟩ (.slice none 0 0)).setCell ⟨w.heap.size+1,2,none⟩ (.slice none 0 0))from
   ⟨⟨_,_,_,[],by rw[hno];exact he,DQ.nil _ _,by unfold OH;rw[hno,f7 j7];exact bF.nil _ _,by unfold OG;rw[hno,f7 j7];exact r'.nil _ _,by unfold OF;rw[hno,f7 j7];exact WV.nil _ _,Hw.nil _⟩,
     (((A8.o.trans hx).store 0 j0 _).store 1 j0 _).store 2 j0 _⟩)
 clear h hV J';cases hg:ak p V
 ·have HG:=I (show E0 p V L=false by unfold E0 eP;rw[hg];rfl);rw[hg,hW]at HC;clear hg;go_enter func134,ntmps134
  go_wp2_with fail;refine HC.o.mono ?_;rw[<-hW];rintro e w1 ⟨rfl,A'⟩;have Eb:=C9.FF (DO.o w1 A');have Eh:=C9.FE (DO.o w1 A');have FZ:=C9.F3 (DO.o w1 A');have Ip:=C9.F2 (DO.o w1 A');have A0:=I A';clear A';go_wp2_with fail;refine Fn (by simp[results,results134,go_sem,Eb,Eh,FZ]<;>rfl) rfl (Fi.o _ A0.o HG.o _ rfl)
 ·obtain⟨q,rfl,h1,h5,hlen,_,FG⟩:=ap hg;have Yz:=I hg;rw[hg,hW]at HC;clear hg;by_cases IB:q<2
  ·have HG:=I (show E0 (q:Int) V L=false by unfold E0 eP;rw[Yz.o,Ok (by omega:¬(2:Int)<=(q:Int))];rfl);clear hlen FG;have Wp:(q:Int)<2:=by omega
   go_enter func134,ntmps134
   go_wp2_with fail;refine HC.o.mono ?_;rw[<-hW];rintro e w1 ⟨rfl,A'⟩;have D1:=A'.o6 M3.o;have Eb:=C9.FF (DO.o w1 A');have Eh:=C9.FE (DO.o w1 A');have FZ:=C9.F3 (DO.o w1 A');have Ip:=C9.F2 (DO.o w1 A');have A0:=I A';clear A';go_wp2_with fail;refine Fn (by simp[results,results134,go_sem,Eb,Eh,FZ]<;>rfl) rfl (Fi.o _ A0.o HG.o _ rfl)
  ·have Oj:4<=n:=by have:=SO (n:=q) j0 h5;rw[<-HVL.o,hlen];exact this
   have GQ:n<=32:=by have:=bp q h5;rw[<-HVL.o,hlen];exact this.2
   obtain⟨u,rfl⟩:∃u,n=u+1:=⟨n-1,by omega⟩;have IG:=I FG
   have HOG:=I (show eP (q:Int) V L=(Lg L ((u:Int)-1) fn&&decide (0<(bC L (u+1-2)).length))by
    unfold eP;rw[Yz.o,UV (by omega:(2:Int)<=(q:Int)),HVL.o,GK.o]
    rw[show(((u+1:Nat):Int))-2=(u:Int)-1 by omega];rfl)
   have Wp:¬(q:Int)<2:=by omega
   have Kv:((u+1:Nat):Int)-1=(u:Int):=by omega
   clear hlen FG;go_enter func134,ntmps134
   go_wp2_with fail;refine HC.o.mono ?_;rw[<-hW];clear hW;rintro e w1 ⟨rfl,A'⟩;have D1:=A'.o6 M3.o;have Eu:=A'.o6 NZ.o;have A0:=I A';clear A' HC;go_wp2_with fail;clear D1 Eu
   go_loopg [7,39] fn (λgk ss ii wr=>∃k:Nat,b9 (gk+k=fn)/\ii=.int .i64 (k:Int)/\ss=.int .i64 ((iL (L.take k):Nat):Int)/\b9 (Lg L ((u:Int)-1) k=true)/\b9 (C7 W wr))
   case atStart=>exact⟨0,I j0,rfl,rfl,I rfl,A0⟩
   case round =>
    obtain⟨g1,y8⟩:=e9 gk;subst y8;obtain⟨y9,U⟩:=e9 wr;subst U;obtain⟨k,HK,rfl,rfl,HO,HX⟩:=hrel;have Ll:=HX.o.size;rw[DW.o]at Ll;by_cases hlt:k<fn
    ·obtain⟨b,off,c,x,y,rfl,Eo,Pk,Pj,T7⟩:=(HF.o.ext HX.o).at hlt;have Fe:k<L.length:=by rw[GK.o];exact hlt
     have T3:=DO.o y9 HX.o;have Pd:IntKind.i64.wrap ((u:Int)-1)=(u:Int)-1:=by rw[mn];omega
     cases hb:A4 c 1 ((u:Int)-1)
     ·have HG:=I (show E0 (q:Int) V L=false by
       unfold E0;rw[HOG.o,jR (k:=k) (m:=fn) (by rw[Eo];simp only;rw[hb];rfl) hlt];rfl)
      have IA:=DO.o _ (HX.o.trans (C7.alloc y9 (.cells #[.int .i64 c,.int .i64 x,.int .i64 y] 115)));have Eb:=C9.FF IA;have Eh:=C9.FE IA;have FZ:=C9.F3 IA;have Ip:=C9.F2 IA;clear IA;clear Eo T3;go_wp2_with (first|(go_at_call 82;refine(av _ _ _ _).mono ?_;rw[hb];rintro e w' ⟨rfl,rfl⟩));refine Fn (by simp[results,results134,go_sem,Eb,Eh,FZ]<;>rfl) rfl (Fi.o _ (HX.o.trans (C7.alloc _ _)) HG.o _ rfl)
     ·have SH:1<=c/\c<=(u:Int)-1:=by unfold A4 at hb;simpa using hb
      obtain⟨t,rfl⟩:∃t:Nat,c=t:=⟨c.toNat,by omega⟩;have hLk:∀f∈L.take k,1<=f.1/\f.1<=(u:Int)-1:=by
       intro f hf;obtain⟨i,hi,rfl⟩:=Py.1 hf;have:=(gy.1 HO.o) i (sj.2 j0);rw[Id j0]at this;simp only[Nm,eI,A4,ef]at this;exact this.1
      have Pe:=US (L.take k) (λf hf=>by have:=hLk f hf;omega);have Ni:=lW ((iL (L.take k):Nat):Int) t j0 j0;rw[Kz,Dy t _ (λf hf=>by have:=hLk f hf;omega)]at Ni;have hpw:=Vg t j0;have Wz:IntKind.i64.wrap ((2:Int)^t)=2^t:=by rw[mn];omega
      cases hh:Gw (L.take k) (t:Int)
      ·rw[hh]at Ni;have HN:=I (show Lg L ((u:Int)-1) (k+1)=true by rw[uy,HO.o,Eo];simp only;rw[hb,hh];rfl);have YO:=BE Fe;rw[Eo]at YO;simp only[gg]at YO;have RN:=Ke (k:=t) Pe j0;rw[<-YO]at RN;clear YO Eo hLk hh;obtain⟨s0,Ks⟩:=e9 (iL (L.take k));obtain⟨s1,IK⟩:=e9 (iL (L.take (k+1)));rw[<-Ks]at Ni RN Pe;rw[<-IK]at RN;rw[<-Ks];have Is:=I IK;clear Ks IK;go_wp2_with (first|(go_at_call 82;refine(av _ _ _ _).mono ?_;rw[hb];rintro e w' ⟨rfl,rfl⟩))
       go_roundg (g1-1)
       case measure=>have:=HK.o;omega
       case rel=>exact⟨k+1,I (k8 HK.o),by go_num,by rw[<-Is.o],HN,I (HX.o.trans (C7.alloc _ _))⟩
      ·rw[hh]at Ni
       have HG:=I (show E0 (q:Int) V L=false by
        unfold E0;rw[HOG.o,jR (k:=k) (m:=fn) (by rw[Eo];simp only;rw[hh];simp) hlt];rfl)
       have IA:=DO.o _ (HX.o.trans (C7.alloc y9 (.cells #[.int .i64 (t:Int),.int .i64 x,.int .i64 y] 115)));have Eb:=C9.FF IA;have Eh:=C9.FE IA;have FZ:=C9.F3 IA;have Ip:=C9.F2 IA;clear IA;clear Eo T3 hLk hh;obtain⟨s0,Ks⟩:=e9 (iL (L.take k));rw[<-Ks]at Ni Pe;rw[<-Ks];clear Ks;go_wp2_with (first|(go_at_call 82;refine(av _ _ _ _).mono ?_;rw[hb];rintro e w' ⟨rfl,rfl⟩));refine Fn (by simp[results,results134,go_sem,Eb,Eh,FZ]<;>rfl) rfl (Fi.o _ (HX.o.trans (C7.alloc _ _)) HG.o _ rfl)
    ·have hkf:k=fn:=by have:=HK.o;omega
     subst hkf;have hLb:∀f∈L,1<=f.1/\f.1<=(u:Int)-1:=by
      intro f hf;obtain⟨i,hi,rfl⟩:=Sr hf;have:=(gy.1 HO.o) i (sj.2 (by rw[<-GK.o];exact hi));rw[Id hi]at this;simp only[Nm,eI,A4,ef]at this;exact this.1
     have FN:=I hLb;have TP:=I (kA (w:=y9) (q:Int) a (u+1) cap j0 j0 (HF.o.ext HX.o));have KW:=I (λs=>kV (L:=L) (m:=u+1-2) (s:=s));have HML:=I (eG L (u+1-2));have hcA:=HX.o.o6 M3.o;have hcB:=HX.o.o6 NZ.o;clear hLb;go_wp2_with fail;refine TP.o.mono ?_;rintro e w2 ⟨⟨vf,rfl,hfo⟩,C4⟩;obtain⟨af,m,cf,rfl,hfm⟩:=hfo.var;have C0:=I (HX.o.trans C4);have HFO:=I (hfo.mono (base':=w.heap.size+2) Ll);have Qg:=I hfm.out;have hmb:m<=32:=by have:=HML.o;have:=hfm.out;omega
     have Iz:=C0.o.size;rw[DW.o]at Iz;clear hfo hfm C4 hcA hcB TP;by_cases NF:m=0
     ·subst NF
      have HG:=I (show E0 (q:Int) V L=false by
       unfold E0;rw[HOG.o,Qg.o];simp)
      have IA:=DO.o _ C0.o;have Eb:=C9.FF IA;have Eh:=C9.FE IA;have FZ:=C9.F3 IA;have Ip:=C9.F2 IA;clear IA;go_wp2_with fail;refine Fn (by simp[results,results134,go_sem,Eb,Eh,FZ]<;>rfl) rfl (Fi.o _ C0.o HG.o _ rfl)
     ·have QQ:=I (show eP (q:Int) V L=true by rw[HOG.o,HO.o,Qg.o];simp;omega);have hmz:((m:Int) == 0)=false:=by simpa using NF
      have abA:=I (jI HFO.o.ints j0);have Ww:=HFO.o.ints.r8;have Wv:=HFO.o.ints.r9;go_wp2_with fail;refine abA.o.mono ?_;rintro e w3 ⟨vcl,rfl,hco,B5⟩;obtain⟨acl,ncl,ccl,rfl,hncl⟩:=hco.var;have HNCL:=I (show ncl=m by rw[<-hncl.out,Qg.o]);have B7:=I (C0.o.trans B5);have HFO3:=I (HFO.o.ext B5);have HCO3:=I (hco.mono (base':=w.heap.size+2) Iz);have KI:=B7.o.size;rw[DW.o]at KI;have HR0:=I (WV.made w3 (w.heap.size+2) KI);clear hco hncl B5;go_wp2_with fail
      go_loopg [12,76] m (λgk cc ii wr=>∃(k:Nat) (a1:l9) (n1 p1:Nat),b9 (gk+k=m)/\ii=.int .i64 (k:Int)/\cc=.slice a1 n1 p1/\b9 (WV wr (w.heap.size+2) (.slice a1 n1 p1) ((bS V ((bC L (u+1-2)).take k)).map λc=>c.2.2.2))/\b9 (r' wr (w.heap.size+2) (.slice af m cf) (bC L (u+1-2)))/\b9 (r' wr (w.heap.size+2) (.slice acl ncl ccl) (bC L (u+1-2)))/\b9 (C7 W wr))
      case atStart=>exact⟨0,_,_,_,I j0,rfl,rfl,HR0,I (HFO3.o.ext (C7.alloc _ _)),I (HCO3.o.ext (C7.alloc _ _)),I (B7.o.trans (C7.alloc _ _))⟩
      case round =>
       obtain⟨g2,O⟩:=e9 gk;subst O;obtain⟨wr2,C7q⟩:=e9 wr;subst C7q;obtain⟨j,a1,n1,p1,HJ,rfl,rfl,SX,Ro,YD,Y5⟩:=hrel;have hszk:=Y5.o.size;rw[DW.o]at hszk;have hcB:=Y5.o.o6 NZ.o;by_cases Ln:j<m
       ·obtain⟨b,off,he,Q6⟩:=Ro.o.ints.at Ln;subst he;obtain⟨s,hs⟩:=e9 ((bC L (u+1-2))[j]?.getD 0);rw[<-hs]at Q6;have F0:j<(bC L (u+1-2)).length:=by rw[Qg.o];exact Ln
        have hsm:=KW.o s (by rw[hs,Id F0];exact eN F0);obtain⟨t,rfl⟩:∃t:Nat,s=t:=⟨s.toNat,by omega⟩;have Wb:t<u+1:=by omega
        obtain⟨vb,voff,Q2,MJ⟩:=((I6.o.ext Y5.o).at Wb);subst Q2;have Na:=dp IG.o t;obtain⟨y,hy⟩:=e9 (V[t]?.getD 0);rw[<-hy]at MJ Na
        have F9:=I (show((bS V ((bC L (u+1-2)).take j)).map λc=>c.2.2.2)++[(-y,1)]=(bS V ((bC L (u+1-2)).take (j+1))).map λc=>c.2.2.2 by
         rw[<-pu V F0,<-hs,hy];simp)
        have Pd:IntKind.i64.wrap (-y)=-y:=by rw[mn];omega
        have S2:=I (show((bS V ((bC L (u+1-2)).take j)).map λc=>c.2.2.2).length<=1000 by rw[dc,el,k6];have:=HML.o;omega);clear hs hsm hy F0
        go_wp2_with (first
         | (go_at_call 131;refine(cO _ _).mono ?_;rintro e w4 ⟨rfl,DN⟩;have TZ:=DN.size;have IL:=I (SX.o.ext DN);have TQ:=I (Ro.o.ext DN);have HC4:=I (YD.o.ext DN);have Gm:=I (Y5.o.trans DN);clear DN)
         | (at_builtin;refine cG rfl _ _ rfl (w.heap.size+2) (.slice a1 n1 p1) _ rfl (IL.o.ext (C7.alloc _ _)) _ 1 _ [(-y,1)] rfl (i6.one' _ _ _ _ _ j7) (k8 S2.o) (by simp;omega) ?_;intro v5 w5 ho hg r7;have Zl:=I (TQ.o.Qn (C7.alloc _ _) IL.o hg);have HC5:=I (HC4.o.Qn (C7.alloc _ _) IL.o hg);have X5:=I ((Gm.o.trans (C7.alloc _ _)).grown hg (λj hj=>by rw[DW.o];exact(IL.o.lt j hj).1));obtain⟨a5,n5,p5,rfl,It⟩:=ho.var;have DT:=I ho;clear ho hg r7))
        go_roundg (g2-1)
        case measure=>have:=HJ.o;omega
        case rel=>exact⟨j+1,a5,n5,p5,I (k8 HJ.o),by go_num,rfl,I (by rw[<-F9.o];exact DT.o),Zl,HC5,X5⟩
       ·have NG:m=j:=by have:=HJ.o;omega
        subst NG;have HFT:=I (show(bC L (u+1-2)).take m=bC L (u+1-2)from bR (by rw[Qg.o];exact i8 _));rw[HFT.o]at SX;have TT:=I (Am (HF.o.ext Y5.o) j0);clear Ro hcB;go_wp2_with fail;refine TT.o.mono ?_;rintro e w4 ⟨vE,rfl,hE,DN⟩;obtain⟨aE0,nE0,cE0,rfl,hnE⟩:=hE.var;have HNE0:=I (show nE0=k by rw[<-hnE.out,GK.o]);have Gm:=I (Y5.o.trans DN);have IL:=I (SX.o.ext DN);have HC4:=I (YD.o.ext DN);have HE4:=I (hE.mono (base':=w.heap.size+2) hszk);have Th:=Gm.o.size;rw[DW.o]at Th;clear hE hnE DN TT
        go_wp2_with (first
         | (go_at_call 131;refine(cO _ _).mono ?_;rintro e w5 ⟨rfl,Ey⟩;have KJ:=Ey.size;have HE5:=I (HE4.o.ext Ey);have JR:=I (IL.o.ext Ey);have HC5:=I (HC4.o.ext Ey);have FV:=I (Gm.o.trans Ey);clear Ey)
         | (at_builtin;refine dJ G7 Tryz.M9 rfl Zf (by decide) rfl _ _ rfl (w.heap.size+2) (.slice aE0 nE0 cE0) L rfl (HE5.o.ext (C7.alloc _ _)) _ 1 1 [((u:Int),0,1)] rfl (GL.lit G7 _ _ _ 1 j9 _ j9 _ j9 j0) (by rw[GK.o];omega) (by simp;omega) ?_;intro v6 w6 ho hg r7;have Po:=I (show WV w6 _ _ _ from cw (JR.o.ext (C7.alloc _ _)) (HE5.o.ext (C7.alloc _ _)) (by decide) hg);have Zo:=I (show r' w6 _ _ _ from cw (HC5.o.ext (C7.alloc _ _)) (HE5.o.ext (C7.alloc _ _)) (by decide) hg);have X6:=I ((FV.o.trans (C7.alloc _ _)).grown hg (λj hj=>by rw[DW.o];exact(HE5.o.lt j hj).1));obtain⟨aEqz,nE,cE,rfl,N9⟩:=ho.var;have HE6:=I ho;clear ho hg r7))
        obtain⟨EE,hEE⟩:=e9 (Jh (u+1) L);have HEL:=I (show L++[((u:Int),0,1)]=EE by rw[hEE];unfold Jh;rw[Kv])
        have HEM:=I (show∀f∈EE,1<=f.1/\f.1<=(u:Int)by
         intro f hf;rw[<-HEL.o]at hf
         rcases Wn.1 hf with h|h
         ·have:=FN.o f h;omega
         ·rw[Se]at h;subst h;simp only;omega)
        have HEN:=I (show EE.length=k+1 by rw[<-HEL.o,SW,GK.o];rfl);have HNEE:=I (show nE=k+1 by rw[<-N9.o,HEL.o,HEN.o]);rw[HEL.o]at HE6;have F4:=I (UJ QQ.o HVL.o j0 IG.o);rw[<-hEE]at F4;have Ps:=I (lY HVL.o j0 IG.o L);rw[<-hEE]at Ps;have hecap:=HE6.o.Hr.r8;have hemax:=HE6.o.Hr.r9;have HFV:=I (show(bS V (bC L (u+1-2))).length<=1000 by rw[el];have:=HML.o;omega);obtain⟨FC,hFC⟩:=e9 (bS V (bC L (u+1-2)));have HFC1:=I (show bC L (u+1-2)=FC.map (·.1)by rw[hFC];simp[bS,Function.comp_def]);rw[HFC1.o]at Zo;rw[<-hFC]at Po Ps HFV;have PW:=I hFC;clear hEE hFC Kv;go_wp2_with fail
        go_loopg [11,12,99] (k+1) (λgk cc rr ii wr=>∃(i:Nat) (aC:l9) (nC cC:Nat) (aR:l9) (nR cR:Nat),b9 (gk+i=k+1)/\ii=.int .i64 (i:Int)/\cc=.slice aC nC cC/\rr=.slice aR nR cR/\b9 (r' wr (w.heap.size+2) (.slice aC nC cC) ((FC++aX V (EE.take i)).map (·.1)))/\b9 (WV wr (w.heap.size+2) (.slice aR nR cR) ((FC++aX V (EE.take i)).map λc=>c.2.2.2))/\b9 (A5 G7 115 wr (w.heap.size+2) (.slice aEqz nE cE) EE)/\b9 ((EE.take i).all (RX V)=true)/\b9 (C7 W wr))
        case atStart=>exact⟨0,_,_,_,_,_,_,I j0,rfl,rfl,rfl,I (by simpa[aX]using Zo.o),I (by simpa[aX]using Po.o),HE6,I rfl,X6⟩
        case round =>
         obtain⟨g3,JLqz⟩:=e9 gk;subst JLqz;obtain⟨Z,GIqz⟩:=e9 wr;subst GIqz;obtain⟨i,aC,nC,cC,aR,nR,cR,HI,rfl,rfl,rfl,Ly,Zd,Rl,TF,B7⟩:=hrel;have Wh:=B7.o.size;rw[DW.o]at Wh;by_cases Ng:i<k+1
         ·have hine:i<nE:=by rw[HNEE.o];exact Ng
          obtain⟨eb,DI,⟨c,x,y⟩,IU,hex,hec⟩:=Rl.o.Hr.at hine;subst IU;have e0:Z.cell? ⟨eb,DI+i*3,none⟩=some (.int .i64 c):=hec 0 _ rfl;have e1:Z.cell? ⟨eb,DI+i*3+1,none⟩=some (.int .i64 x):=hec 1 _ rfl;have e2:Z.cell? ⟨eb,DI+i*3+2,none⟩=some (.int .i64 y):=hec 2 _ rfl;have K3:=HEM.o (c,x,y) (RU hex);simp only at K3;obtain⟨t,rfl⟩:∃t:Nat,c=t:=⟨c.toNat,by omega⟩;have Wb:t<u+1:=by omega
          obtain⟨vb,voff,Q2,MJ⟩:=I6.o.at Wb;subst Q2;obtain⟨z,hz⟩:=e9 (V[t]?.getD 0);rw[<-hz]at MJ;obtain⟨p,q',ok,D4⟩:∃p q ok,D9 (x,y) (z,1)=((p,q),ok):=⟨_,_,_,rfl⟩;have EJ:=I D4;have HPB:=I (show -1000000000<=p/\p<=1000000000 by have:=yj (x,y) (z,1);rw[D4]at this;exact this);have HFIT:=I (show RX V ((t:Int),x,y)=ok by unfold RX;simp only;rw[gg,<-hz,D4])
          have HTW:=I (show aX V (EE.take i)++GX (t:Int) (p,q')=aX V (EE.take (i+1))by
           rw[fQ hex];unfold aX;rw[zo];simp only[TO,List.flatMap_nil,C3];unfold ik;simp only;rw[gg,<-hz,D4])
          have HXI:=I hex;clear hec hex hz D4;go_upto_region 25 with fail;obtain⟨wb,QZ⟩:=e9 (Z.alloc (.cells #[.int .i64 (t:Int),.int .i64 x,.int .i64 y] 115));have Ov:=I (show C7 Z wb by rw[QZ];exact C7.alloc _ _);have f0:wb.cell? ⟨Z.heap.size,0,none⟩=some (.int .i64 (t:Int)):=by rw[QZ];simp
          have f1:wb.cell? ⟨Z.heap.size,1,none⟩=some (.int .i64 x):=by rw[QZ];simp
          have f2:wb.cell? ⟨Z.heap.size,2,none⟩=some (.int .i64 y):=by rw[QZ];simp
          have Jd:wb.cell? ⟨w.heap.size,1,none⟩=some (.slice (some ⟨vb,voff,none⟩) (u+1) cap):=(B7.o.trans Ov.o).o6 NZ.o;have RH:wb.cell? ⟨vb,voff+t,none⟩=some (.int .i64 z):=(B7.o.trans Ov.o).o6 MJ;rw[<-QZ];have Wf:(t:Int)<(u:Int)+1:=by omega
          clear QZ e0 e1 e2 MJ;go_upto_region 25 with fail
          go_cut [17,18] (λsx so wx=>∃g:Nat,sx=.pointer (some ⟨g,0,none⟩)/\so=.bool ok/\b9 (ah wb wx g p q'))
          case first =>
           have o7:C7 wb wb.drew:=C7.drew wb;have D0:C7 wb (wb.alloc (.cells #[.int .i64 0,.int .i64 0] 56)).drew:=(C7.alloc _ _).trans (C7.drew _);have o8:=I (λ(w':J) (h:C7 wb w')=>(an (h.o6 f0) (an (h.o6 f1) (an (h.o6 f2) (an (h.o6 Jd) (an (h.o6 RH) h))))))
           go_region_held3 (λw'=>w'.cell? ⟨Z.heap.size,0,none⟩=some (.int .i64 (t:Int))/\w'.cell? ⟨Z.heap.size,1,none⟩=some (.int .i64 x)/\w'.cell? ⟨Z.heap.size,2,none⟩=some (.int .i64 y)/\w'.cell? ⟨w.heap.size,1,none⟩=some (.slice (some ⟨vb,voff,none⟩) (u+1) cap)/\w'.cell? ⟨vb,voff+t,none⟩=some (.int .i64 z)/\C7 wb w')
            (first
              | with_reducible exact o8.o _ o7
              | with_reducible exact o8.o _ D0
              | with_reducible exact o8.o _ ((o7.setCell (by first|(simp;done)|(simp;omega)) _).setCell (by first|(simp;done)|(simp;omega)) _)
              | with_reducible exact o8.o _ (o7.trans (C7.alloc _ _))
              | with_reducible exact o8.o _ (A1.put _ _).ext)
            (first
              | (go_at_call 131
                 (with_reducible refine(cO _ _).mono ?_)
                 rintro e w7 ⟨rfl,ER⟩
                 first|(with_reducible have A1:=ah.grow A1 ER)|(with_reducible have A1:=ah.DS ER)|(with_reducible have A1:=ah.DX o7 ER)|skip
                 first|(have IX:=A1.c0;have IW:=A1.c1;have Kf:=A1.free)|skip
                 have o7:C7 wb w7:=by first|with_reducible exact o7.trans ER|with_reducible exact D0.trans ER|with_reducible exact(o7.trans (C7.alloc _ _)).trans ER
                 have FB:=o7.size)
              | (go_at_call 207
                 (with_reducible refine(ml _ _ _ _ _).mono ?_)
                 rw[EJ.o];rintro e w8 ⟨rfl,FQ⟩
                 first|(with_reducible have A1:=ah.grow A1 FQ)|(with_reducible have A1:=ah.DS FQ)|(with_reducible have A1:=ah.DX o7 FQ)|skip
                 first|(have IX:=A1.c0;have IW:=A1.c1;have Kf:=A1.free)|skip
                 have o7:C7 wb w8:=by first|with_reducible exact o7.trans FQ|with_reducible exact D0.trans FQ|with_reducible exact(o7.trans (C7.alloc _ _)).trans FQ
                 have FB:=o7.size)
              | fail)
           all_goals(go_wp2_with fail;go_meet;first|exact⟨_,rfl,rfl,I (A1.put _ _)⟩|exact⟨_,rfl,rfl,I (ah.new o7 _ _)⟩|exact⟨_,rfl,rfl,I (ah.new' o7 _ _ j7)⟩)
          obtain⟨g,rfl,rfl,HB⟩:=hcut;have XC:=I ((B7.o.trans Ov.o).trans HB.o.ext);have Yn:=I ((Ly.o.ext Ov.o).ext HB.o.ext);have HORc:=I ((Zd.o.ext Ov.o).ext HB.o.ext);have HOEc:=I ((Rl.o.ext Ov.o).ext HB.o.ext);have Ms:=HB.o.ext.o6 f0;have OM:=XC.o.size;rw[DW.o]at OM;have HGE:=I (show Z.heap.size<g by have:=HB.o.ge;have:=O4 _ _ f0;simp only at this;omega);clear f0 f1 f2 Jd RH Wf;cases ok
          ·have HG:=I (show E0 (q:Int) V L=false from by
            rw[F4.o,PZ];exact⟨_,RU HXI.o,by rw[HFIT.o];simp⟩)
           have IA:=DO.o _ XC.o;have Eb:=C9.FF IA;have Eh:=C9.FE IA;have FZ:=C9.F3 IA;have Ip:=C9.F2 IA;clear IA;go_wp2_with fail;refine Fn (by simp[results,results134,go_sem,Eb,Eh,FZ]<;>rfl) rfl (Fi.o _ XC.o HG.o _ rfl)
          ·have Ui:=I (show(EE.take (i+1)).all (RX V)=true by rw[fQ HXI.o,tn,TF.o];simp[HFIT.o]);have Hk:=I (show((FC++aX V (EE.take i)).map (·.1)).length<=3000000 by rw[dc,SW,fM,k6];have:=HFV.o;have:=HEN.o;omega);have Ft:=I (show((FC++aX V (EE.take i)).map λc=>c.2.2.2).length<=3000000 by rw[dc,SW,fM,k6];have:=HFV.o;have:=HEN.o;omega);have Za:=I (show(FC++aX V (EE.take i)).map (·.1)++[(t:Int),(t:Int)]=(FC++aX V (EE.take (i+1))).map (·.1)by rw[<-HTW.o];exact xd _ FC _ (GX (t:Int) (p,q')));have HSR:=I (show((FC++aX V (EE.take i)).map λc=>c.2.2.2)++[(p,q'),(-p,q')]=(FC++aX V (EE.take (i+1))).map λc=>c.2.2.2 by rw[<-HTW.o];exact xd _ FC _ (GX (t:Int) (p,q')));have Nt:=I (HB.o.cell)
           go_wp2_with (first
            | (at_builtin;go_loud (refine bK rfl _ _ rfl (w.heap.size+2) (.slice aC nC cC) _ rfl (Yn.o.ext (C7.alloc _ _)) _ 2 _ [(t:Int),(t:Int)] rfl (d9.ac2 [(t:Int),(t:Int)] _ j9 j9 j9 j7) (fy (Nat.add_le_add_right Hk.o 2) (by decide)) (by simp;omega) ?_;intro v9 w9 ho hg r7;have Zb:=I (HORc.o.VJ (C7.alloc _ _) Yn.o hg);have HE9:=I (show A5 G7 115 w9 _ _ _ from HOEc.o.Xa (C7.alloc _ _) Yn.o (by decide) hg);have X9:=I ((XC.o.trans (C7.alloc _ _)).grown hg (λj hj=>by rw[DW.o];exact(Yn.o.lt j hj).1));have Mg:=I (show w9.heap[g]?=_ from(hg.block g (by have:=HB.o.lt;simp;omega) (aq Yn.o Nt.o (by decide))).trans ((aZ _ _ _ HB.o.lt).trans Nt.o));obtain⟨a9,n9,p9,rfl,N'⟩:=ho.var;have HC9:=I ho;clear ho hg r7)))
           have G5:w9.cell? ⟨g,0,none⟩=some (.int .i64 p):=(bO Mg.o).1;have E6:w9.cell? ⟨g,1,none⟩=some (.int .i64 q'):=(bO Mg.o).2.1;have hpb:=HPB.o;have HNE9:=I (show some g≠(Value.slice aR nR cR).ownBlock from λe=>by have:=(Zd.o.lt g e.symm).2;have:=HGE.o;omega);have Gj:C7 W w9:=X9.o;have o7:C7 w9 w9.drew:=C7.drew w9;have hsz9:=X9.o.size;rw[DW.o]at hsz9;have o8:=I (λ(w':J) (h:C7 W w') (h0:w'.cell? ⟨g,0,none⟩=some (.int .i64 p)) (h1:w'.cell? ⟨g,1,none⟩=some (.int .i64 q'))=>(⟨h0,h1,h⟩:w'.cell? ⟨g,0,none⟩=some (.int .i64 p)/\w'.cell? ⟨g,1,none⟩=some (.int .i64 q')/\C7 W w'));clear Ms
           go_region_held3 (λw'=>w'.cell? ⟨g,0,none⟩=some (.int .i64 p)/\w'.cell? ⟨g,1,none⟩=some (.int .i64 q')/\C7 W w')
            (first
              | with_reducible exact o8.o _ (Gj.trans o7) (o7.o6 G5) (o7.o6 E6)
              | with_reducible exact o8.o _ (Gj.trans (o7.trans (C7.alloc _ _))) ((o7.trans (C7.alloc _ _)).o6 G5) ((o7.trans (C7.alloc _ _)).o6 E6)
              | with_reducible exact o8.o _ MN hc5 hc6)
            (first
              | (go_at_call 129
                 (with_reducible refine(eX _ _ _ j0 j0).mono ?_)
                 rintro e Nx ⟨rfl,MI⟩;have o7:C7 w9 Nx:=o7.trans MI
                 have adk:=o7.size)
              | (refine bU _ j9 ?_
                 refine dq _ _ j9 (w.heap.size+2) (.slice aR nR cR) _ j9 (Zb.o.ext (o7.trans (C7.alloc _ _))) _ 2 2 [(p,q'),(-p,q')] j9 (i6.two _ _ _ _ _ _ j9) (fy (Nat.add_le_add_right Ft.o 2) (by decide)) (by simp;omega) ?_;intro v11 Pc ho hg r7;have hc5:=hg.cell ((o7.trans (C7.alloc _ _)).o6 G5) HNE9.o;have hc6:=hg.cell ((o7.trans (C7.alloc _ _)).o6 E6) HNE9.o;have HC11:=I (HC9.o.Qn (o7.trans (C7.alloc _ _)) Zb.o hg);have HE11:=I (HE9.o.W7 (o7.trans (C7.alloc _ _)) Zb.o (by decide) hg);have MN:C7 W Pc:=(Gj.trans (o7.trans (C7.alloc _ _))).grown hg (λj hj=>by rw[DW.o];exact(Zb.o.lt j hj).1);obtain⟨a11,n11,p11,rfl,HN11⟩:=ho.var;have HR11:=I ho
                 clear ho hg r7)
              | fail)
           have X11:=I MN;clear Gj MN hc5 hc6;go_wp2_with fail
           go_roundg (g3-1)
           case measure=>have:=HI.o;omega
           case rel=>exact⟨i+1,a9,n9,p9,a11,n11,p11,I (k8 HI.o),by go_num,rfl,rfl,I (by rw[<-Za.o];exact HC11.o),I (by rw[<-HSR.o];exact HR11.o),HE11,Ui,X11⟩
         ·have hik':i=k+1:=by have:=HI.o;omega
          subst hik';have LH:=I (show EE.take (k+1)=EE from bR (by rw[HEN.o];exact i8 _));rw[LH.o]at Ly Zd TF;have R3:=I (show E0 (q:Int) V L=true by rw[F4.o,TF.o]);obtain⟨CI,hCI⟩:=e9 ((FC++aX V EE).map (·.1));have QL:=I (show((FC++aX V EE).map λc=>c.2.2.2)=Mi V L by rw[Ps.o];rfl);have TS:=I (show CI.length=m+2*(k+1)by rw[hCI,dc,SW,fM,HEN.o,PW.o,el,Qg.o])
          have Yl:=I (show GN m CI.length q (EL q CI)=(List.range q).map (Iu (dX V L) q)by
           have:=ZU V (bC L (u+1-2)) EE q;rw[Qg.o,<-PW.o,<-hCI,Ps.o]at this
           exact this)
          have ajj:=I (show List.replicate m 1++List.replicate (2*(k+1)) 0=Iu (dX V L) q q by
           have:=wN V (bC L (u+1-2)) EE q;rw[Qg.o,<-PW.o,Ps.o,HEN.o]at this
           exact this)
          have Um:=I (show∀r:Nat,CI[r]?.getD 0<=9223372036854775807 by
           intro r;by_cases hr:r<CI.length
           ·rw[Id hr];have hm:=eN hr;simp only[hCI]at hm;obtain⟨c,hc,hce⟩:=C'.1 hm;have GU:=vO HVL.o j0 (λf hf=>by have:=FN.o f hf;omega) c (by rw[<-Ps.o];exact hc);simp only[Nm];have e:CI[r]=c.1:=by simp only[hCI];exact hce.symm
            rw[e];omega
           ·rw[q8 j0];simp)
          rw[<-hCI]at Ly;rw[QL.o]at Zd;have HNC:=I (show nC=m+2*(k+1)by obtain⟨_,_,he,_⟩:=Ly.o.form;simp only[nP]at he;rw[he.2.1,TS.o]);have OZ:=I (kZ (w:=Z) q h5 Ly.o.ints Um.o (by rw[HNC.o];omega));have hcA:=B7.o.o6 M3.o;have hnlt:¬((k:Int)+1<(nE:Int)):=by have:=HNEE.o;omega
          clear hCI;go_wp2_with fail;refine OZ.o.mono ?_;rintro e Mh ⟨⟨vA,rfl,vs,RM,Mp⟩,Ht⟩;obtain⟨aA,nA,cA,rfl,hna⟩:=RM.var;have hnq:nA=q:=by rw[<-hna.out,Mp.len,qr]
          subst hnq;have TM:=I (show Io Mh (w.heap.size+2) aA nA cA vs (EL nA CI)from⟨RM.mono' Wh,⟨Mp.len,λi hi=>(Mp.row i hi).mono Wh,Mp.apart⟩⟩);have PT:=I (Zd.o.ext Ht);have Ud:=I (B7.o.trans Ht);have hacap:=TM.o.cap.1;have hamax:=TM.o.cap.2;clear RM Mp hna Ht hcA OZ;go_wp2_with fail
          go_loopg [139] nA (λgk ii wr=>∃i:Nat,b9 (gk+i=nA)/\ii=.int .i64 (i:Int)/\b9 (Io wr (w.heap.size+2) aA nA cA vs (GN m CI.length i (EL nA CI)))/\b9 (WV wr (w.heap.size+2) (.slice aR nR cR) (Mi V L))/\b9 (C7 W wr))
          case atStart=>exact⟨0,I j0,rfl,I (by rw[CL];exact TM.o),PT,Ud⟩
          case round =>
           obtain⟨g4,WVq⟩:=e9 gk;subst WVq;obtain⟨wr4,QDqz⟩:=e9 wr;subst QDqz;obtain⟨i,HI4,rfl,Lc,HR4',aeq⟩:=hrel;have abW:=aeq.o.size;rw[DW.o]at abW;by_cases D7:i<nA
           ·obtain⟨G,rfl,_,Tv,_⟩:=Lc.o.outer j0;have Jr:i<(EL nA CI).length:=by rw[qr];exact D7
            have J9:((GN m CI.length i (EL nA CI))[i]?.getD []).length=m+2*(k+1):=by rw[zD Jr,mC D7,gJ,TS.o]
            obtain⟨gr,cr,Q1,hcr,RN,hne,Nj,hgrl,hncr,hcrm⟩:=Lc.o.row D7 J9 j0;have HVR:=I Q1;clear Q1 RN J9;go_wp2_with fail
            go_loopg [22] (m+2*(k+1)) (λgk jj wr=>∃t:Nat,b9 (gk+t=m+2*(k+1))/\jj=.int .i64 ((m+1+2*t:Nat):Int)/\b9 (Io wr (w.heap.size+2) (some ⟨G,0,none⟩) nA cA vs ((GN m CI.length i (EL nA CI)).set i (dR m (m+1+2*t) (DK CI i))))/\b9 (WV wr (w.heap.size+2) (.slice aR nR cR) (Mi V L))/\b9 (C7 W wr))
            case atStart=>exact⟨0,I j0,by simp,I (by
             rw[yW];have e:(GN m CI.length i (EL nA CI)).set i (DK CI i)=GN m CI.length i (EL nA CI):=by
              have h0:=zD (m:=m) (N:=CI.length) Jr;rw[mC D7]at h0
              apply TC j7
              intro r h1 h2;rw[Tu]
              split
              ·next er=>subst er;rw[Id h2]at h0;simpa using h0.symm
              ·rfl
             rw[e];exact Lc.o),HR4',aeq⟩
            case round =>
             obtain⟨g5,adX⟩:=e9 gk;subst adX;obtain⟨wr5,WU⟩:=e9 wr;subst WU;obtain⟨t,Ki,rfl,Jo,aeE,Tz⟩:=hrel;have agY:=Tz.o.size;rw[DW.o]at agY;by_cases F0:m+1+2*t<m+2*(k+1)
             ·obtain⟨j,hj⟩:=e9 (m+1+2*t);have SB:((GN m CI.length i (EL nA CI)).set i (dR m (m+1+2*t) (DK CI i)))[i]?.getD []=dR m (m+1+2*t) (DK CI i):=by
               rw[vY (by rw[Vt];exact Jr)];rfl
              obtain⟨gr',cr',hvr',hcr',hor',adt,hbr',ahE,ahi,ahQ⟩:=Jo.o.row (n:=m+2*(k+1)) D7 (by rw[SB,CN,gJ,TS.o]) j0;have F':=HVR.o.symm.trans hvr';simp only[nP,bq,H4,E5,aF]at F';have Ws:=hor';rw[<-F'.1,<-F'.2,SB]at Ws;have hcell:=Ws.GG.2.2.2 (m+1+2*t) F0;have JW:=Ws.GG.2.2.1 (m+1+2*t);rw[Vr (by rw[gJ,TS.o];exact F0),f7 j0]at hcell;obtain⟨x,hx⟩:=e9 ((DK CI i)[m+1+2*t]?.getD 0);have QY:=ZY CI i (m+1+2*t);rw[<-hx]at hcell QY;have YJ:IntKind.i64.wrap (-x)=-x:=by rw[mn];omega
              have Sd:=I (show Io (wr5.setCell ⟨gr,m+1+2*t,none⟩ (.int .i64 (-x))) (w.heap.size+2) (some ⟨G,0,none⟩) nA cA vs ((GN m CI.length i (EL nA CI)).set i (dR m (m+1+2*(t+1)) (DK CI i)))by
               have:=Jo.o.Mj D7 HVR.o (m+1+2*t) (-x);rw[SB,hx,Be (by rw[gJ,TS.o];exact F0),List.set_set]at this
               rw[hx];exact this)
              have HR6':=I (show WV (wr5.setCell ⟨gr,m+1+2*t,none⟩ (.int .i64 (-x))) (w.heap.size+2) (.slice aR nR cR) (Mi V L)from
               aeE.o.keep λb hb=>GE _ _ _ _ λe=>aL (by decide) aeE.o Ws b hb (by rw[e];rfl))
              have HX6':=I (Tz.o.store (b:=gr) (m+1+2*t) (by rw[DW.o];exact Nj) (.int .i64 (-x)));clear hor' Ws SB hvr' hcr' adt hbr' ahE ahi ahQ F' hx;rw[<-hj]at hcell JW Sd HR6' HX6' F0;have HJ6:=I hj;rw[<-hj];clear hj;go_wp2_with fail
              go_roundg (g5-1)
              case measure=>have:=Ki.o;have:=HJ6.o;omega
              case rel=>exact⟨t+1,I (by have:=Ki.o;have:=HJ6.o;omega),by have:=HJ6.o;go_num,Sd,HR6',HX6'⟩
             ·have hnlt2:¬(((m+1+2*t:Nat):Int)<((m+2*(k+1):Nat):Int)):=by omega
              have Yu:=I (show Io wr5 (w.heap.size+2) (some ⟨G,0,none⟩) nA cA vs (GN m CI.length (i+1) (EL nA CI))by
               have h1:=CK (m:=m) (N:=CI.length) Jr;rw[mC D7]at h1;rw[<-h1];have h2:=CM (m:=m) (j:=m+1+2*t) (r:=DK CI i) (by rw[gJ,TS.o];omega);rw[gJ]at h2
               rw[<-h2];exact Jo.o)
              obtain⟨j,hj⟩:=e9 (m+1+2*t);obtain⟨N,hN⟩:=e9 (m+2*(k+1));go_wp2_with fail
              go_roundg (g4-1)
              case measure=>have:=HI4.o;omega
              case rel=>exact⟨i+1,I (k8 HI4.o),by go_num,Yu,aeE,Tz⟩
           ·have hin':nA=i:=by have:=HI4.o;omega
            subst hin';rw[Yl.o]at Lc;have aeV:=I (tN R3.o);obtain⟨d,hd⟩:=e9 (2*(k+1));have hncd:(nC:Int)-(m:Int)=(d:Int):=by have:=HNC.o;omega
            have HD:=I hd;have HT1:=I (fZ (w:=wr4) m 1 j0);have Fh:=I (λ(TV:J)=>fZ (w:=TV) d 0 j0);have hnc0:(0:Int)<=(nC:Int)-(m:Int):=by omega
            clear hd;go_wp2_with fail;refine HT1.o.mono ?_;rintro e TV ⟨⟨v13,rfl,adp⟩,V3⟩;obtain⟨Y1,n13,c13,rfl,hn13⟩:=adp.var;have I1:=I adp;have HX13:=I V3;have TL:=I hn13.out;clear adp V3 hn13 HT1;go_wp2_with fail;rw[show wrap64 (d:Int)=(d:Int)by unfold wrap64;have:=HD.o;omega];refine(Fh.o TV).mono ?_;rintro e w14 ⟨⟨v14,rfl,ado⟩,hx14⟩;obtain⟨a14,n14,c14,rfl,hn14⟩:=ado.var;have HO14:=I ado;have aes:=I hx14;have HN14:=I hn14.out;have abr:=I (show(List.replicate m (1:Int)).length+n14<=1099511627776 by rw[<-HN14.o,G6,G6];have:=HD.o;omega);have hs13:=HX13.o.size;have hs14:=aes.o.size;clear ado hx14 hn14 Fh
            go_wp2_with (first
             | (at_builtin;go_loud (refine bK rfl _ _ rfl wr4.heap.size (.slice Y1 n13 c13) _ rfl (I1.o.ext aes.o) _ n14 _ _ rfl HO14.o.ints abr.o j0 ?_;intro v15 Jw ho hg r7;have V2:=((HX13.o.trans aes.o).grown hg (λj hj=>(I1.o.lt j hj).1));obtain⟨a15,n15,c15,rfl,HN15⟩:=ho.var;have Md:=I ho;have aer:=I V2;clear ho hg r7 V2)))
            obtain⟨lr,Ka⟩:=e9 (List.replicate m (1:Int)++List.replicate d 0);have HLR0:=I (show lr=Iu (dX V L) nA nA by rw[Ka,HD.o];exact ajj.o);rw[<-Ka]at Md;have aaI:C7 W Jw:=aeq.o.trans aer.o;have H:Tw W Jw (w.heap.size+2) Jw.heap.size (.slice aA nA cA) vs (vs++[.slice a15 n15 c15]) ((List.range nA).map (Iu (dX V L) nA)++[lr]) (.slice aR nR cR) (Mi V L) :=
             Tw.start Lc.o aer.o Md.o abW (HR4'.o.ext aer.o) aaI
            have agZ:=aaI.size;rw[DW.o]at agZ;have N1:=I (show vs.length<=1099511627775 by rw[Lc.o.GW];omega);have Fu:=I (λ(w16:J)=>fZ (w:=w16) nA 0 j0);have o8:=I (λ(w':J) (h:C7 W w')=>(h.o6 M3.o:w'.cell? ⟨w.heap.size,0,none⟩=some (.int .i64 (nA:Int))))
            have HKST:=I (λ(w':J) (h:C7 W w') (a b c:arQ)=>(show(((w'.setCell ⟨w.heap.size+1,0,none⟩ a).setCell ⟨w.heap.size+1,1,none⟩ b).setCell ⟨w.heap.size+1,2,none⟩ c).cell? ⟨w.heap.size,0,none⟩=some (.int .i64 (nA:Int))from
             (World.cell?_of_block (a:=⟨w.heap.size,0,none⟩) (by
               show(((w'.setCell ⟨w.heap.size+1,0,none⟩ a).setCell ⟨w.heap.size+1,1,none⟩ b).setCell ⟨w.heap.size+1,2,none⟩ c).heap[w.heap.size]?=w'.heap[w.heap.size]?
               rw[GE _ _ _ _ j7,GE _ _ _ _ j7,GE _ _ _ _ j7])).trans (o8.o w' h)))
            have SY:=I (λ(n:Nat) (hn:Jw.heap.size<=n)=>(show some n≠(Value.slice aA nA cA).ownBlock from λe=>by have:=(H.out.lt n e.symm).2;omega));have Fy:=I (show W.heap.size<=w.heap.size+2 by rw[DW.o];exact i8 _);have HZW:=I (show W.heap.size<=Jw.heap.size from aaI.size);have e0:C7 Jw Jw.drew:=C7.drew _;have e1:C7 Jw (Jw.alloc (.cells #[.slice a15 n15 c15] 29)).drew:=(C7.alloc _ _).trans (C7.drew _);have e2:C7 Jw (Jw.alloc (.cells #[.int .i64 1] 3)).drew:=(C7.alloc _ _).trans (C7.drew _);have e12:C7 Jw ((Jw.alloc (.cells #[.slice a15 n15 c15] 29)).alloc (.cells #[.int .i64 1] 3)).drew:=((C7.alloc _ _).trans (C7.alloc _ _)).trans (C7.drew _);have e21:C7 Jw ((Jw.alloc (.cells #[.int .i64 1] 3)).alloc (.cells #[.slice a15 n15 c15] 29)).drew:=((C7.alloc _ _).trans (C7.alloc _ _)).trans (C7.drew _);have b12:((Jw.alloc (.cells #[.slice a15 n15 c15] 29)).alloc (.cells #[.int .i64 1] 3)).drew.cell? ⟨Jw.heap.size+1,0,none⟩=some (.int .i64 1):=by simp
            have b21:((Jw.alloc (.cells #[.int .i64 1] 3)).alloc (.cells #[.slice a15 n15 c15] 29)).drew.cell? ⟨Jw.heap.size,0,none⟩=some (.int .i64 1):=by simp
            clear Ka
            go_region_held3 (λw'=>w'.cell? ⟨w.heap.size,0,none⟩=some (.int .i64 (nA:Int)))
             (first
               | with_reducible exact o8.o _ (H.ext.trans e0)
               | with_reducible exact o8.o _ (H.ext.trans e1)
               | with_reducible exact o8.o _ (H.ext.trans e2)
               | with_reducible exact o8.o _ (H.ext.trans e12)
               | with_reducible exact o8.o _ (H.ext.trans e21)
               | with_reducible exact o8.o _ H.ext
               | with_reducible exact o8.o _ (H.ext.trans (C7.alloc _ _))
               | with_reducible exact HKST.o _ H.ext _ _ _)
             (first
               | (go_at_call 197
                  (with_reducible refine(Fu.o _).mono ?_)
                  rintro e w17 ⟨⟨vT,rfl,hoT⟩,hxT⟩;obtain⟨aT,nT,cT,rfl,hnT⟩:=hoT.var;have hzz:=H.hz;have HT:=I (hoT.mono (base':=Jw.heap.size) (by first|exact hzz|(simp;omega)))
                  first
                   | (with_reducible have H:=H.more hxT)
                   | (with_reducible have H:=H.more ((C7.alloc _ _).trans hxT))
                  first
                   | (with_reducible have Ew:=hxT.o6 Ew)
                   | (have Ew:w17.cell? ⟨wA.heap.size,0,none⟩=some (.int .i64 1):=hxT.o6 (by simp;done))
                   | skip
                  have hs17:=H.ext.size
                  clear hoT hnT hxT)
               | (refine bU _ j9 ?_
                  refine du _ _ j9 (w.heap.size+2) (.slice aA nA cA) vs j9 (by with_reducible exact H.out.ext e1) _ _ 1 j9 (by simp;rfl) j9 N1.o (by simp;omega) ?_;intro v16 wA ho hg r7;have H:=H.push e1 hg ho Fy.o;obtain⟨a16,n16,c16,rfl,HN16⟩:=ho.var;have hs16:=H.ext.size
                  clear ho hg r7)
               | (refine bU _ j9 ?_
                  refine du _ _ j9 (w.heap.size+2) (.slice aA nA cA) vs j9 (by with_reducible exact H.out.ext e12) _ _ 1 j9 (by simp;rfl) j9 N1.o (by simp;omega) ?_;intro v16 wA ho hg r7;have Ew:=hg.cell b12 (SY.o _ (b7 _));have H:=H.push e12 hg ho Fy.o;obtain⟨a16,n16,c16,rfl,HN16⟩:=ho.var;have hs16:=H.ext.size
                  clear ho hg r7)
               | (refine bU _ j9 ?_
                  refine du _ _ j9 (w.heap.size+2) (.slice aA nA cA) vs j9 (by with_reducible exact H.out.ext e21) _ _ 1 j9 (by simp;rfl) j9 N1.o (by simp;omega) ?_;intro v16 wA ho hg r7;have Ew:=hg.cell b21 (SY.o _ (i8 _));have H:=H.push e21 hg ho Fy.o;obtain⟨a16,n16,c16,rfl,HN16⟩:=ho.var;have hs16:=H.ext.size
                  clear ho hg r7)
               | (refine bU _ j9 ?_
                  refine aO _ _ j9 Jw.heap.size (.slice aT nT cT) (List.replicate nA 0) j9 (by with_reducible exact HT.o) _ 1 _ [(1:Int)] j9 (d9.ac1 Ew) (by simp;omega) H.hz ?_;intro v18 wZ ho hg r7;have H:=H.acg (C7.refl _) HT.o hg HZW.o;obtain⟨a18,n18,c18,rfl,HN18⟩:=ho.var;have HZ:=I ho;have hs18:=H.ext.size;have Pg:=o8.o _ H.ext;have Eb:=C9.FF (DO.o _ H.ext);have Eh:=C9.FE (DO.o _ H.ext);have FZ:=C9.F3 (DO.o _ H.ext);have Ip:=C9.F2 (DO.o _ H.ext)
                  clear ho hg r7)
               | (refine bU _ j9 ?_
                  refine aO _ _ j9 Jw.heap.size (.slice aT nT cT) (List.replicate nA 0) j9 (HT.o.ext (C7.alloc _ _)) _ 1 _ [(1:Int)] j9 (d9.Ie w17 _ _ _ j9) (by simp;omega) (by have:=H.hz;simp;omega) ?_;intro v18 wZ ho hg r7;have H:=H.acg (C7.alloc _ _) (HT.o.ext (C7.alloc _ _)) hg HZW.o;obtain⟨a18,n18,c18,rfl,HN18⟩:=ho.var;have HZ:=I ho;have hs18:=H.ext.size;have Pg:=o8.o _ H.ext;have Eb:=C9.FF (DO.o _ H.ext);have Eh:=C9.FE (DO.o _ H.ext);have FZ:=C9.F3 (DO.o _ H.ext);have Ip:=C9.F2 (DO.o _ H.ext)
                  clear ho hg r7)
               | fail)
            all_goals
             have HS:=I H;clear H aaI e0 e1 e2 e12 e21 b12 b21 Pg
             try clear Ew
             go_wp2_with fail;refine Fn (by simp[results,results134,go_sem,Eb,Eh,FZ]<;>rfl) rfl ⟨⟨_,_,_,_,by rw[R3.o],(((((DQ.on HS.o.out).set j7 _).set j7 _).set j7 _).here).mono' j0,?_,?_,?_,?_⟩,?_⟩
             ·rw[aeV.o.1,gg];have hA:(List.range nA).map (Iu (dX V L) nA)++[lr]=N2 nA V L:=by unfold N2;rw[rN,sr,HLR0.o];rfl
              rw[<-hA];exact(((((bF.on HS.o.rows).set j7 _).set j7 _).set j7 _).here).mono' j0
             ·rw[aeV.o.2.1,gg,<-CU];exact(((((r'.on HZ.o).set (by simp;omega) _).set (by simp;omega) _).set (by simp;omega) _).here).mono j0
             ·rw[aeV.o.2.2];exact(((((WV.on HS.o.c).set j7 _).set j7 _).set j7 _).here).mono j0
             ·exact λi k hi hk KP=>by
               have h1:=HS.o.top i k (by rw[<-HS.o.rows.len];exact hi) hk;have h2:=(HZ.o.lt k KP).1;omega
             ·exact(((A8.o.trans HS.o.ext).store 0 j0 _).store 1 j0 _).store 2 j0 _
theorem zV(e:Nat->o3->o3->o3)(M:l8):∀n,(RK e M n).2<=n
 | 0=>i8 _
 | n+1=>by
   have ih:=zV e M n;unfold RK Ik
   split
   ·show(RK e M n).2+1<=n+1;omega
   omega
theorem Vf{p:Int}(h:1<=p)(l:o3):gu p l<=p:=by
 unfold gu;split
 ·have:=zV cJ (l.map (G8 p.toNat)) p.toNat;omega
 omega
def cV(q:Nat)(V:o3)(L:k9):G9:=bG az (N2 q V L) (Sp q) (Mi V L)
def F7(fr:o3)(r:G9)(k:Nat):k9:=((List.range k).filter λj=>decide (0<(r.X[j]?.getD (0,0)).1)).map λj=>(fr[j]?.getD 0,-r.value.1,r.value.2)
theorem uu(E:o3)(r:G9):F7 E r 0=[]:=rfl
theorem lk(E:o3)(r:G9)(k:Nat):F7 E r (k+1)=F7 E r k++if 0<(r.X[k]?.getD (0,0)).1 then [(E[k]?.getD 0,-r.value.1,r.value.2)] else []:=by
 unfold F7;rw[rN,dr,sr];congr 1;by_cases h:0<(r.X[k]?.getD (0,0)).1
 ·simp[h]
 simp[h]
def L'(q:Nat)(r:G9):l7:=(r.Y.take q).map C5
def Fj(V:o3)(L:k9):o3:=bC L (JL V-2)
def ep(V:o3)(L:k9)(r:G9):k9:=L++F7 (Fj V L) r (Fj V L).length
def fj(p:Int)(V:o3)(L:k9):Bool:=decide (gu p (((JL V:Int)-1)::L.map (·.1))=p)
structure Kg  where
 ok:Bool
 pt:l7
 st:k9
 rounds:Nat
def Kg.no:Kg:=⟨false,[],[],0⟩
def J4(p:Int)(V:o3):Nat->k9->Nat->Kg
 | 0,_,_=>Kg.no
 | f+1,L,k =>
   if E0 p V L=true/\(cV p.toNat V L).status=1 then
    (if fj p V (ep V L (cV p.toNat V L))=true then⟨true,L' p.toNat (cV p.toNat V L),ep V L (cV p.toNat V L),k+1⟩
    else J4 p V f (ep V L (cV p.toNat V L)) (k+1))
   else Kg.no
def Iw(p:Int)(V:o3):Kg :=
 if ak p V=true then(if p=1 then⟨true,[(bu p V,1)],[],0⟩ else J4 p V (JL (Fj V [])+1) [] 0) else Kg.no
theorem yp(X:l7)(row:Nat->Int)(m:Nat)(G:∀j,m<=j->row j=0)(E:∀j,j<m->row j=1)(hx:∀j,j<m->val (X[j]?.getD (0,0))<=0):∀N,A7 (λj=>((row j:Int):Rat)*val (X[j]?.getD (0,0))) N<=0
 | 0=>by simp[A7]
 | N+1=>by
   have ih:=yp X row m G E hx N;simp only[A7];by_cases h:N<m
   ·have:=hx N h;rw[E N h];have e:((1:Int):Rat)=1:=by exact_mod_cast rfl
    rw[e]
    grind
   rw[G N j0];have e:((0:Int):Rat)=0:=by exact_mod_cast rfl
   rw[e]
   grind
theorem BI(l:o3)(j:Nat):B4 (aG l) j=((l[j]?.getD 0:Int):Rat):=by
 unfold B4;by_cases h:j<JL l
 ·rw[oE h,fz]
 rw[q8 (by rw[fS];omega),q8 j0]
 show val (0,0)=((0:Int):Rat);unfold val;grind
theorem kg{p:Int}(h:ak p V=true):1<=JL V/\JL V<=32/\p=(p.toNat:Int)/\1<=p.toNat/\p.toNat<=5/\∀y∈V,-500<=y/\y<=500:=by
 obtain⟨n,rfl,K,E,G,_,H⟩:=ap h;have e:(n:Int).toNat=n:=j0;rw[e,G];refine⟨?_,?_,rfl,K,E,H⟩
 ·exact(bp n E).1
 exact(bp n E).2
theorem jX{p:Int}(h:E0 p V L=true):ak p V=true/\2<=p/\Lg L ((JL V:Int)-2) (JL L)=true/\0<JL (Fj V L):=by
 obtain⟨h1,_⟩:=fl h;have⟨Z,Q⟩:=fl h1;have⟨K,H⟩:=fl Q;have⟨G,E⟩:=fl H;exact⟨Z,uf K,G,uf E⟩
theorem CP{p:Int}(h:E0 p V L=true)(hs:(cV p.toNat V L).status=1):F7 (Fj V L) (cV p.toNat V L) (JL (Fj V L))≠[]:=by
 intro H;obtain⟨hg,_,_,_⟩:=jX h;obtain⟨h1,_,_,_,_,hV⟩:=kg hg;obtain⟨v1,_,v3,_⟩:=fu hs;have⟨r,hr⟩:=e9 (cV p.toNat V L);have E:aQ az (N2 p.toNat V L) (Sp p.toNat) (Mi V L) r=true:=by rw[hr];exact v3
 rw[<-hr]at hs H;unfold aQ at E;rw[f9 hs]at E;obtain⟨f1,_⟩:=fl E;unfold eO at f1;obtain⟨_,f2⟩:=fl f1;obtain⟨_,f3⟩:=fl f2;unfold em at f3;have f4:=gy.1 f3 p.toNat (sj.2 (by simp[N2]));have f5:=uf f4;have e1:(N2 p.toNat V L)[p.toNat]?.getD []=List.replicate (JL (Fj V L)) 1++List.replicate (2*(Jh (JL V) L).length) 0:=by
  unfold Fj;rw[wN V (bC L (V.length-2)) (Jh V.length L) p.toNat,lY rfl h1 hV L];unfold N2;rw[vM,TA j0,yl,Nm]
 have e2:(Sp p.toNat)[p.toNat]?.getD 0=1:=by
  unfold Sp;rw[vM,TA j0,yl,Nm];rw[show decide (p.toNat=p.toNat)=true from UV rfl];rfl
 rw[e1,e2]at f5;obtain⟨_,_,_,Z⟩:=eF f5;have hx:∀j,j<JL (Fj V L)->val (r.X[j]?.getD (0,0))<=0:=by
  intro j G;obtain⟨_,_,g3,_⟩:=eF f5;have hv:=(g3 j (by rw[fS,SW,G6];omega)).2;have adr:¬0<(r.X[j]?.getD (0,0)).1:=by
   intro hp;unfold F7 at H;rw[List.map_eq_nil_iff,List.filter_eq_nil_iff]at H;exact H j (sj.2 G) (UV hp)
  have GP:=(iO (p:=C5 (r.X[j]?.getD (0,0))) (by rw[eu];exact hv)).1 (by show 0<=-(r.X[j]?.getD (0,0)).1;omega);rw[is]at GP
  grind
 have K:=yp r.X (λj=>(List.replicate (JL (Fj V L)) (1:Int)++List.replicate (2*(Jh (JL V) L).length) 0)[j]?.getD 0) (JL (Fj V L)) (λj G=>by
  show(List.replicate (JL (Fj V L)) (1:Int)++List.replicate (2*(Jh (JL V) L).length) 0)[j]?.getD 0=0;rw[Sl (by rw[G6];exact G),Tl]
  split<;>rfl) (λj G=>by
  show(List.replicate (JL (Fj V L)) (1:Int)++List.replicate (2*(Jh (JL V) L).length) 0)[j]?.getD 0=1;rw[tv (by rw[G6];exact G),Tl,f9 G];rfl) hx (aG (List.replicate (JL (Fj V L)) (1:Int)++List.replicate (2*(Jh (JL V) L).length) 0)).length
 have e3:val ((1:Int),(1:Int))=1:=by rw[fz];exact_mod_cast rfl
 rw[e3]at Z;have e4:A7 (λj=>B4 (aG (List.replicate (JL (Fj V L)) (1:Int)++List.replicate (2*(Jh (JL V) L).length) 0)) j*B4 r.X j) (aG (List.replicate (JL (Fj V L)) (1:Int)++List.replicate (2*(Jh (JL V) L).length) 0)).length=A7 (λj=>(((List.replicate (JL (Fj V L)) (1:Int)++List.replicate (2*(Jh (JL V) L).length) 0)[j]?.getD 0:Int):Rat)*val (r.X[j]?.getD (0,0))) (aG (List.replicate (JL (Fj V L)) (1:Int)++List.replicate (2*(Jh (JL V) L).length) 0)).length :=
  bX λj _=>by rw[BI];rfl
 rw[e4]at Z;have Q:(1:Rat)<=0:=by rw[Z];exact K
 exact absurd Q Fd
theorem xp{E:o3}{r:G9}(hk:k<=JL E){f:Int×Int×Int}(h:f∈F7 E r k):f.1∈E:=by
 unfold F7 at h;obtain⟨j,H,rfl⟩:=C'.1 h;have:=sj.1 (L1.1 H).1;have G:j<JL E:=j0;show E[j]?.getD 0∈E;rw[Id G,Nm];exact eN G
theorem mD(E:o3)(r:G9)(k:Nat):JL (F7 E r k)<=k:=by
 unfold F7;rw[dc];have:=W5 (λj=>decide (0<(r.X[j]?.getD (0,0)).1)) (List.range k);rw[Rc]at this;exact this
theorem Ci{T:k9}{m:Nat}(G:T≠[])(hm:∀f∈T,f.1∈bC L m):JL (bC (L++T) m)<JL (bC L m):=by
 have e:bC (L++T) m=(bC L m).filter λs=>!Gw T s:=by
  unfold bC;rw[List.filter_filter];refine List.filter_congr λs _=>?_;unfold Gw;rw[List.any_append];cases L.any _<;>cases T.any _<;>rfl
 rw[e,List.length_filter_lt_length_iff_exists];have⟨f,E⟩:=List.exists_mem_of_ne_nil T G;refine⟨f.1,hm f E,?_⟩;have:Gw T f.1=true:=i'.2 ⟨f,E,by simp⟩;rw[this];decide
theorem rG{p:Int}(h:E0 p V L=true)(hs:(cV p.toNat V L).status=1):JL (Fj V (ep V L (cV p.toNat V L)))<JL (Fj V L) :=
 Ci (CP h hs) λ_ E=>xp (i8 _) E
theorem qW(V:o3):∀(E:k9) (i:Nat) (c:TU),(aX V E)[i]?=some c->∃i':Nat,(aX V E)[i']?=some (c.1,-c.2.1,c.2.2.1,-c.2.2.2.1,c.2.2.2.2)
 | [],i,c,h=>by simp[aX]at h
 | f::E,0,c,h=>by
   simp only[aX,TO,GX,V6,XT,bq]at h;subst h;exact⟨1,by simp[aX,GX]⟩
 | f::E,1,c,h=>by
   simp only[aX,TO,GX,V6,SB,XT,bq]at h;subst h;exact⟨0,by simp[aX,GX]⟩
 | f::E,i+2,c,h=>by
   simp only[aX,TO,GX,V6,Qu,SB]at h;have⟨i',G⟩:=qW V E i c h;exact⟨i'+2,by simp only[aX,TO,GX,V6,Qu,SB];exact G⟩
theorem zl{q:Nat}{j:Nat}{c:TU}(h:(dX V L)[j]?=some c):El (N2 q V L) j=(List.range (q+1)).map λk=>c.2.1*D3 (Vn q k c):=by
 unfold El N2;rw[Uc];refine W6 λk _=>?_;show((dX V L).map λc=>c.2.1*D3 (Vn q k c))[j]?.getD 0=_;rw[vM,h];rfl
theorem yh{j:Nat}{c:TU}(h:(dX V L)[j]?=some c):(Mi V L)[j]?.getD (0,0)=c.2.2.2:=by
 unfold Mi;rw[vM,h];rfl
theorem ZA{p:Int}(h:E0 p V L=true)(j:Nat)(Q:j<JL (Mi V L)):Ss (N2 p.toNat V L) (Mi V L) j:=by
 obtain⟨hg,_,_,_⟩:=jX h;obtain⟨h1,_,_,_,_,Z⟩:=kg hg;have E:=lY rfl h1 Z L;have K:j<JL (dX V L):=by unfold Mi at Q;rw[dc]at Q;exact Q
 obtain⟨c,hc⟩:∃c,(dX V L)[j]?=some c:=⟨_,Id K⟩;by_cases H:j<(bS V (bC L (JL V-2))).length
 ·refine xt ⟨-(V[((bC L (JL V-2))[j]?.getD 0).toNat]?.getD 0),?_,?_⟩
  ·rw[yh hc];rw[<-E,tv H]at hc;unfold bS at hc;rw[el]at H;rw[vM,Id H,yl,bq]at hc;rw[<-hc,Id H,Nm]
  have:=AB hg ((bC L (JL V-2))[j]?.getD 0).toNat;omega
 refine Ws ?_;have G:=hc;rw[<-E,Sl j0]at G;have⟨i',Ho⟩:=qW V _ _ _ G;have hi:(dX V L)[(bS V (bC L (JL V-2))).length+i']?=some (c.1,-c.2.1,c.2.2.1,-c.2.2.2.1,c.2.2.2.2):=by
  rw[<-E,Sl j0,Nat.add_sub_cancel_left];exact Ho
 refine⟨(bS V (bC L (JL V-2))).length+i',?_,?_,?_⟩
 ·have:=(O2.1 hi).1;unfold Mi;rw[dc];exact this
 ·rw[yh hi,yh hc];rfl
 rw[zl hi,zl hc,Uc];refine W6 λk _=>?_;show -c.2.1*D3 (Vn p.toNat k c)=-(c.2.1*D3 (Vn p.toNat k c));rw[Int.neg_mul]
theorem Vp{p:Int}(h:E0 p V L=true):cV p.toNat V L=fc (N2 p.toNat V L) (Sp p.toNat) (Mi V L):=jW λ_ j E=>ZA h j E
theorem Bj{p:Int}(h:ak p V=true)(h2:2<=p)(s:Int):gu p [s]<p:=by
 obtain⟨_,_,hp,_,h5,_⟩:=kg h;unfold gu;rw[f9 (by unfold A4;simp only[eI,ef];omega)];have:=(kl sF (mh p.toNat [s]) p.toNat j0).2.2.1;have e:JL ([s].map (G8 p.toNat))=1:=rfl;rw[e]at this;omega
theorem uw{p:Int}(h:E0 p V L=true)(hs:(cV p.toNat V L).status=1):
 JL (Fj V L)<=(cV p.toNat V L).X.length/\(cV p.toNat V L).Y.length=p.toNat+1/\z7 (cV p.toNat V L).value=true/\∀k,k<(cV p.toNat V L).Y.length->z7 ((cV p.toNat V L).Y[k]?.getD (0,0))=true:=by
 obtain⟨v1,_,v3,v4,K,H⟩:=fu hs;refine⟨?_,by rw[show(cV p.toNat V L).Y.length=(Sp p.toNat).length from v4];simp[Sp],K,H⟩;have E:aQ az (N2 p.toNat V L) (Sp p.toNat) (Mi V L) (cV p.toNat V L)=true:=v3;unfold aQ at E;rw[f9 hs]at E;obtain⟨G,_⟩:=fl E;unfold eO at G;have Q:=uf (fl G).1;rw[Q];unfold Mi dX Fj;rw[dc,SW,SW,el];omega
theorem tA{p:Int}(h:¬(E0 p V L=true/\(cV p.toNat V L).status=1)):J4 p V f L k=Kg.no:=by
 cases f with
 | zero=>rfl
 | succ f=>unfold J4;rw[f7 h]
def MF(p:Int)(V:o3)(f:Nat)(pt:l7)(L:k9)(k:Nat):Kg:=if fj p V L=true then⟨true,pt,L,k⟩ else J4 p V f L k
theorem Bf{p:Int}(hg:ak p V=true)(G:2<=p):MF p V (JL (Fj V [])+1) [] [] 0=Iw p V:=by
 have E:fj p V []=false:=by
  unfold fj;have:=Bj hg G ((JL V:Int)-1);exact Ok (by show¬gu p [(JL V:Int)-1]=p;omega)
 unfold MF Iw;rw[E,f9 hg,f7 j7,f7 j0]
theorem CT{p:Int}(E:fj p V L=false)(h:E0 p V L=true)(hs:(cV p.toNat V L).status=1):
 MF p V (f+1) pt L k=MF p V f (L' p.toNat (cV p.toNat V L)) (ep V L (cV p.toNat V L)) (k+1):=by
 unfold MF;rw[E,f7 j7]
 conv=>lhs;unfold J4
 rw[f9 ⟨h,hs⟩]
theorem zG{p:Int}(E:fj p V L=false)(h:¬(E0 p V L=true/\(cV p.toNat V L).status=1)):MF p V f pt L k=Kg.no:=by
 unfold MF;rw[E,f7 j7,tA h]
theorem CS{p:Int}(E:fj p V L=true):MF p V f pt L k=⟨true,pt,L,k⟩:=by
 unfold MF;rw[E,f9 rfl]
theorem zE{r:G9}(hn:JL V<=32)(h:∀f∈L,f.1<=1000)(hk:JL L<=32*k):(∀f∈ep V L r,f.1<=1000)/\JL (ep V L r)<=32*(k+1):=by
 refine⟨λf G=>?_,?_⟩
 ·rcases Wn.1 G with E|E
  ·exact h f E
  have:=(kV (xp (i8 _) E)).2.1;omega
 unfold ep;rw[SW];have E:=mD (Fj V L) r (JL (Fj V L));have h2:JL (Fj V L)<=JL V-2:=eG L (JL V-2);omega
def zs(q:Nat)(z:Nat->Rat)(s:Int):Rat:=A7 (λk=>z k*((D3 (Gd s (k:Int)):Int):Rat)) q
def Mk(q:Nat)(V:o3)(z:Nat->Rat)(s:Int):Rat:=((V[s.toNat]?.getD 0:Int):Rat)-zs q z s
structure W8(q:Nat)(V:o3)(L:k9)(z:Nat->Rat):Prop where
 grand:Mk q V z ((V.length:Int)-1)=0
 fixed:∀f∈L,Mk q V z f.1=val f.2
end
section
variable{X:l7}
theorem io(s:Int)(w:J):Calls Tryz.prog 173 #[U s] w λe w'=>e=ar (bl (A4 s 0 31))/\w=w':=by
 exact LP
theorem ze(s:Nat)(hs:s<32)(w:J):
 Calls Tryz.prog 175 #[U s] w λe w'=>(∃v,e=ar v/\r' w' w v (Ix (s:Int) 5))/\C7 w w':=by
 have D7:A4 (s:Int) 0 31=true:=by unfold A4;simp;omega
 have Z:=I (λw'=>io (s:Int) w');rw[D7]at Z;have HO1:=I (r'.D2 w w _ rfl (i8 _));clear D7;go_in
 go_wp2
 go_loopg [3,4] 5 (λgk o i wr=>∃(k:Nat) (K:l9) (H c1:Nat),b9 (gk+k=5)/\i=U k/\o=GI K H c1/\b9 (r' wr w (GI K H c1) (Ix (s:Int) k))/\b9 (C7 w wr))
 ·exact O0
 obtain⟨k,K,H,c1,HK,rfl,rfl,aa,A0⟩:=hrel;have hsz:=A0.size;by_cases hlt:k<5
 ·have HB:=I (dE (s:Int) k j0 j0);cases E:M2 (s:Int) k
  ·rw[E]at HB;have HS:=I E;clear E;go_wp2_with (first|(go_at_call 173;refine(Z _).mono ?_;rintro e G ⟨rfl,rfl⟩)|(go_at_call 99;refine(bE _ _ _ j0).mono ?_;rw[HB.o];rintro e G ⟨rfl,rfl⟩))
   refine er ?_;exact⟨k+1,K,H,c1,I (k8 HK.o),by go_num,rfl,I (by rw[lh,HS.o];simpa using aa.o),A0⟩
  rw[E]at HB;have HS:=I E;clear E
  go_wp2_with (first
   | (go_at_call 173;refine(Z _).mono ?_;rintro e G ⟨rfl,rfl⟩)
   | (go_at_call 99;refine(bE _ _ _ j0).mono ?_;rw[HB.o];rintro e G ⟨rfl,rfl⟩)
   | (at_builtin;refine Ub ((k:Int)) aa A0 (k8 (qq (s:Int) k)) λa2 n2 c2 G Hb X5 EI=>?_))
  refine er ?_;exact⟨k+1,a2,n2,c2,I (k8 HK.o),by go_num,rfl,I (by rw[lh,HS.o];exact EI),X5⟩
 have MN:k=5:=k8 HK.o;subst MN;go_wp2_with (go_at_call 173;refine(Z _).mono ?_;rintro e G ⟨rfl,rfl⟩);go_ret;exact⟨⟨_,rfl,aa⟩,A0⟩
def GZ(X:l7):o3->o4->Option (Int×Int)
 | [],a=>some a
 | k::l,a=>if(JL X:Int)<=k then none else if(Ev a (X[k.toNat]?.getD (0,0))).2=true then GZ X l (Ev a (X[k.toNat]?.getD (0,0))).1 else none
theorem lD(X:l7):∀(l E:o3) (a:o4),GZ X (l++E) a=(GZ X l a).bind (GZ X E)
 | [],E,a=>rfl
 | k::l,E,a=>by
   simp only[V6,GZ]
   split
   ·rfl
   split
   ·exact lD X l E _
   rfl
def cv(X:l7)(s:Nat):Option (Int×Int):=GZ X (Ix (s:Int) 5) (0,1)
theorem ln{l:o3}{k:Nat}{a b:o4}(G:k<JL l)(h:GZ X (l.take k) a=some b)(E:GZ X [l[k]?.getD 0] b=none):GZ X l a=none:=by
 have e:l=l.take k++(l[k]?.getD 0::l.drop (k+1)):=by
  rw[Id G,Nm,<-RQ G,Gv]
 rw[e,lD,h];show GZ X (l[k]?.getD 0::l.drop (k+1)) b=none;simp only[GZ]at E⊢;split
 ·rfl
 next h1 =>
 rw[f7 h1]at E;split
 ·next h2=>rw[f9 h2]at E;cases E
 rfl
theorem uA{l:o3}{k:Nat}{a b c:o4}(E:k<JL l)(h:GZ X (l.take k) a=some b)(G:GZ X [l[k]?.getD 0] b=some c):GZ X (l.take (k+1)) a=some c:=by
 rw[cW E,lD,h];exact G
def Oy(h:σ:=by
 go_cut [9,10] (λsx so wx=>∃g:Nat,sx=aP (some (O g 0))/\so=bl ok/\b9 (ah wr wx g p2 q2))
 case first =>
  have o7:C7 wr wr.drew:=C7.drew wr;have D0:C7 wr (wr.alloc (QD #[U 0,U 0] 56)).drew:=WU.trans cn;have o8:=I (λ(w':J) (h:C7 wr w')=>(an (h.o6 G5) (an (h.o6 E6) (an (h.o6 hlc) (an (h.o6 RD) (an (h.o6 Sx) h))))))
  go_region_held3 (λw'=>w'.cell? (O w1.heap.size 0)=some (U p)/\w'.cell? (O w1.heap.size 1)=some (U q)/\w'.cell? (O lb (VC+k))=some (U j)/\w'.cell? (O xb (Nu+j*2))=some (U x)/\w'.cell? (O xb (Nu+j*2+1))=some (U y)/\C7 wr w')
   (exact Hz)
   (first
     | ((with_reducible refine(qq0 _ _ _ _ _).mono ?_)
        rw[EJ.o];rintro e w5 ⟨rfl,B0⟩
        first|(with_reducible have A1:=ah.grow A1 B0)|(with_reducible have A1:=ah.DS B0)|(with_reducible have A1:=ah.DX o7 B0)|skip
        first|(have IX:=A1.c0;have IW:=A1.c1;have Kf:=A1.free)|skip
        have o7:C7 wr w5:=XG;have FB:=o7.size))
  all_goals(exact Jm)
 obtain⟨g,rfl,rfl,Fy⟩:=hcut;have g0:=Fy.c0;have g1':=Fy.c1;have KQ:=HB.grow Fy.ext;have hX3:=KQ.ext;have hm3:=HM.ext Fy.ext;have RW:=KQ.c0;have RV:=KQ.c1;have hbf:=KQ.free;have En:=I KQ;have B7:=I hX3;have J0:=I hm3;clear G5 E6 hlc RD Sx KQ hX3 hm3;cases ok
 ·have HN:=I (show cv X s=none by rw[OZ.o];exact ln FP.o HT.o (by rw[F4.o];rfl));have hr:=bO (GA wc B7);obtain⟨Eb,Eh,Ip⟩:=hr;go_wp2;refine Fn (by simp[results,qq1,go_sem,Eb,Eh]<;>rfl) rfl ⟨by rw[HN.o];rfl,(((Ha.trans B7).store 0 (i8 _) _).store 1 (i8 _) _)⟩
 ·have Fh:=I (uA FP.o HT.o (by rw[F4.o];rfl))
  have Lc:=I (show r' ((wc.setCell (O w1.heap.size 0) (U p2)).setCell (O w1.heap.size 1) (U q2)) w1.heap.size (GI (some (O lb VC)) nm cm) mem from
   J0.keep λi hi=>by
    have:i≠w1.heap.size:=λe=>aq J0.o En.cell Fd (by rw[hi,e])
    rw[GE _ _ _ _ this,GE _ _ _ _ this])
  have FI:=I (En.put p2 q2);go_wp2_with fail;refine er ?_;exact⟨k+1,p2,q2,I (k8 HK.o),by go_num,FI,Fh,Lc⟩
 ):σ:=h
def JU(h:σ:=by
 have hr:=bO (GA wr HB.ext);obtain⟨Eb,Eh,Ip⟩:=hr;go_wp2;refine Fn LZ rfl ⟨by rw[HY.o];rfl,(((Ha.trans HB.ext).store 0 (i8 _) _).store 1 (i8 _) _)⟩
 ):σ:=h
def dn(h:σ:=by
 have WB:(X.length:Int)<=(j:Int):=by rw[HL.o];omega
 have HN:=I (show cv X s=none by rw[OZ.o];exact ln Fe HT.o (by rw[hj];simp only[GZ];rw[f9 WB]));have hr:=bO (GA wr HB.ext);obtain⟨Eb,Eh,Ip⟩:=hr;have hge:(j:Int)≥(n:Int):=by omega
 clear hj WB;go_wp2;refine Fn LZ rfl ⟨by rw[HN.o];rfl,(((Ha.trans HB.ext).store 0 (i8 _) _).store 1 (i8 _) _)⟩
 ):σ:=h
def Jv(h:σ:=by
 exact⟨0,0,1,I j0,rfl,Ko,I rfl,I (M6.mono j7)⟩
 ):σ:=h
theorem uL{w:J}{a:l9}{n cap:Nat}(h:i6 w a n cap X)(s:Nat)(hs:s<32):
 f8 96 #[GI a n cap,.int .i64 (s:Int)] w (IN ((cv X s).getD (0,0),(cv X s).isSome)):=by
 have HL:=I h.hlen;have r8:=h.r8;have r9:=h.r9;have B8:=C7.alloc w (QD #[.int .i64 0,.int .i64 0] 56);refine t8 (h.ext B8) B8 (ai w (QD #[.int .i64 0,.int .i64 0] 56) _ rfl) λHI A8 DO=>?_;clear h B8;(try unfold f8);go_in
 go_wp2_with fail;refine IR (cL 0 _) λw1 A'=>?_;have A0:=I A';have hs31:¬((s:Int) > 31):=j0;have Ks:¬((s:Int)<0):=j0;clear A';go_wp2_with fail;refine TS (ze s hs _) λw2 v2 H C4=>?_;obtain⟨am,nm,cm,rfl,E⟩:=H.var;refine t8 H ((ah.new (C7.refl w1) 0 1).grow C4) E.out λM6 Ko Yr=>?_;have Ww:=H.ints.r8;have Wv:=H.ints.r9;clear H C4 E;have⟨mem,RQ⟩:=e9 (Ix (s:Int) 5);have S0:=I (λi h=>tw (s:Int) i h);rw[<-RQ]at M6 Yr S0;have OZ:=I (show cv X s=GZ X mem (0,1)by unfold cv;rw[RQ]);clear RQ;have GA:=I (λ(w':J) (hx:C7 w1 w')=>(hx.block _ rk).trans ((A0.block _ (In DO)).trans DO));have Ha:=I (A8.trans A0);have Wi:w.heap.size<w1.heap.size:=by have:=In DO.o;have:=A0.size;omega
 go_wp2
 go_loopg [8] nm (λgk ii wr=>∃(k:Nat) (p q:Int),b9 (gk+k=nm)/\ii=.int .i64 (k:Int)/\b9 (ah w1 wr w1 p q)/\b9 (GZ X (mem.take k) (0,1)=some (p,q))/\b9 (r' wr w1 (GI am nm cm) mem))
 ·exact Jv
 obtain⟨k,p,q,HK,rfl,HB,HT,HM⟩:=hrel;have G5:=HB.c0;have E6:=HB.c1;have PJ:=HB.lt;have adi:=HB.ext.size;by_cases G:k<nm
 ·have Fe:k<JL mem:=by rw[Yr.o];exact G
  obtain⟨j,hj,hj5,_,_⟩:=S0.o k Fe;have⟨lb,VC,K,hlc⟩:=HM.ints.at G;subst K;rw[hj]at hlc;by_cases Ii:j<n
  ·have⟨xb,Nu,x,y,Tf,Eo,RD,Sx⟩:=(HI.ext (A0.trans HB.ext)).at Ii;subst Tf;have WB:¬(JL X:Int)<=(j:Int):=by rw[HL.o];omega
   obtain⟨p2,q2,ok,Z⟩:∃p2 q2 ok,Ev (p,q) (x,y)=((p2,q2),ok):=⟨_,_,_,rfl⟩;have EJ:=I Z;have F4:=I (show GZ X [mem[k]?.getD 0] (p,q)=if ok=true then some (p2,q2) else none by
    rw[hj];simp only[GZ];rw[f7 WB,gg,Eo,Z])
   have FP:=I Fe;clear hj Z Eo Fe WB;go_upto_region 10 with fail
   have qq0:=@iZ;have qq1:=@Yp;exact Oy
  have qq0:=@Yp;exact dn
 have DV:nm=k:=k8 HK.o;subst DV;have HY:=I (show cv X s=some (p,q)by
  rw[OZ.o];have h:=HT.o;rwa [bR (by rw[Yr.o];exact i8 _)]at h)
 have qq0:=@Yp;exact JU
def EG(p:Int)(V:o3)(X:l7):Bool :=
 ak p V&&(decide ((JL X:Int)=p)&&(FM X&&decide (cv X (JL V-1)=some (bu p V,1))))
def OY(h:σ:=by
 have HX:=I (C7.alloc w (QD #[U p,GI a n cap] 31));have HL:=I h.hlen;have HLX:=I hx.hlen;have HI:=I (h.ext HX);have HR:=I (hx.ext HX);have agL:=hx.r8;have agK:=hx.r9;have HV:=I (qq0 (p:=p) HI);clear h hx;cases hv:ak p V
 ·rw[hv]at HV;have HP:=I (show EG p V X=false by unfold EG;rw[hv];rfl);clear hv;(try unfold f8);go_in
  go_wp2_with fail;refine HV.mono ?_;rintro e w1 ⟨rfl,hx⟩;have X1:=I (HX.trans hx);clear hx;go_wp2;go_ret;exact⟨ag HP.symm,X1⟩
 rw[hv]at HV;obtain⟨q,rfl,h1,h5,hlen,_,I5⟩:=ap hv;have FH:=I hv;have hN:=bp q h5;obtain⟨u,rfl⟩:∃u,n=u+1:=⟨n-1,by have:=HL.o;omega⟩;have V9:u<=31:=by have:=HL.o;omega
 have EB:=I (show -500<=bu (q:Int) V/\bu (q:Int) V<=500 by rw[eT hv];exact dp I5 _);clear hv hlen I5 hN;by_cases hml:m=q
 ·subst hml;have Pt:=I (λ(w':J) (hx:C7 (w.alloc (QD #[U m,GI a (u+1) cap] 31)) w')=>qq1 (HR.ext hx));cases Pm:FM X
  ·have HP:=I (show EG (m:Int) V X=false by unfold EG;rw[Pm];simp);rw[Pm]at Pt;clear Pm;(try unfold f8);go_in
   go_wp2_with fail;refine HV.mono ?_;rintro e w1 ⟨rfl,hx⟩;have c0:w1.cell? (O w.heap.size 0)=some (U m):=hx.o6 j7;have Q8:((m:Int) != (m:Int))=false:=by simp
   have HA1:=I (Pt w1 hx);have X1:=I (HX.trans hx);clear hx;go_wp2_with fail;refine HA1.mono ?_;rintro e w2 ⟨rfl,C4⟩;have X2:=I (X1.trans C4);clear C4;go_wp2;go_ret;exact⟨ag HP.symm,X2⟩
  rw[Pm]at Pt;have ae9:=I Pm;clear Pm;(try unfold f8);go_in
  go_wp2_with fail;refine HV.mono ?_;rintro e w1 ⟨rfl,hx⟩;have c0:w1.cell? (O w.heap.size 0)=some (U m):=hx.o6 j7;have c1:w1.cell? (O w.heap.size 1)=some (GI a (u+1) cap):=hx.o6 j7;have Q8:((m:Int) != (m:Int))=false:=by simp
  have HA1:=I (Pt w1 hx);have X1:=I hx;clear hx;go_wp2_with fail;refine HA1.mono ?_;rintro e w2 ⟨rfl,C4⟩;have X2:=I (X1.trans C4);replace c0:=C4.o6 c0;replace c1:=C4.o6 c1;clear C4;have Kv:((u+1:Nat):Int)-1=(u:Int):=by omega
  have R9:=I (qq2 (HR.ext X2) u j0);have HPE:=I (show EG (m:Int) V X=decide (cv X u=some (bu (m:Int) V,1))by
   unfold EG;rw[FH.o,ae9.o,UV (by rw[HLX.o]),HL.o];rfl)
  cases hsh:cv X u with
  | none =>
    have HF:=I (show EG (m:Int) V X=false by rw[HPE.o,hsh];rfl);rw[hsh]at R9;clear hsh;go_wp2_with fail;refine R9.mono ?_;rintro e w3 ⟨rfl,B5⟩;have X3:=I ((HX.trans X2).trans B5);clear B5;go_wp2_with fail
    go_quiet (fail)
    go_wp2;go_ret;exact⟨ag HF.symm,(X3.trans WU).trans (E7.ext ⟨_,rfl⟩)⟩
  | some r =>
    obtain⟨r1,r2⟩:=r;have HF:=I (show EG (m:Int) V X=(decide (r1=bu (m:Int) V)&&decide (r2=1))by
     rw[HPE.o,hsh];simp)
    rw[hsh]at R9;clear hsh;go_wp2_with fail;refine R9.mono ?_;rintro e w3 ⟨rfl,B5⟩;replace c0:=B5.o6 c0;replace c1:=B5.o6 c1;have X3:=I (X2.trans B5);clear B5;have⟨E,hE⟩:=e9 (w3.alloc (QD #[U r1,U r2] 56));have Gg:C7 w3 E:=by rw[hE];exact WU
    have XE:=I (X3.trans Gg);have e0:=Gg.o6 c0;have e1:=Gg.o6 c1;have b0:E.cell? (O w3.heap.size 0)=some (U r1):=by rw[hE];simp
    have b1:E.cell? (O w3.heap.size 1)=some (U r2):=by rw[hE];simp
    have JT:=I (λ(w':J) (hx:C7 E w')=>qq3 (p:=(m:Int)) ((HI.ext XE).ext hx));have⟨G,hG⟩:=e9 (bu (m:Int) V);rw[<-hG]at HF JT;clear hG;go_upto_region 4 with fail;rw[<-hE];clear hE c0 c1 Gg;have o7:C7 E E.drew:=C7.drew E;have o8:=I λw' (h:C7 E w')=>TX (h.o6 e0) (TX (h.o6 e1) (TX (h.o6 b0) (TX (h.o6 b1) h)));cases A':(r1 == G)
    all_goals
     cases EN:(r2 == 1)
    all_goals
     have HF2:=I (show EG (m:Int) V X=((r1 == G)&&(r2 == 1))by rw[HF.o];rw[yy];simp);rw[A',EN]at HF2
     go_region_held3 (λw'=>w'.cell? (O w.heap.size 0)=some (U m)/\w'.cell? (O w.heap.size 1)=some (GI a (u+1) cap)/\w'.cell? (O w3.heap.size 0)=some (U r1)/\w'.cell? (O w3.heap.size 1)=some (U r2)/\C7 E w')
      (first
        | with_reducible exact o8.o _ o7)
      (first
        | ((with_reducible refine(JT.o _ o7).mono ?_)
           rintro e w4 ⟨rfl,DN⟩;have o7:C7 E w4:=o7.trans DN)
        | ((with_reducible refine(qq4 _ _).mono ?_)
           rintro e w5 ⟨rfl,Ey⟩;have o7:C7 E w5:=o7.trans Ey))
     all_goals
      go_wp2;go_ret;exact⟨ag (by rw[HF2.o];rfl),HX.trans (XE.trans o7)⟩
 ·have HP:=I (show EG (q:Int) V X=false by unfold EG;rw[Ok (by rw[HLX.o];omega:¬(X.length:Int)=(q:Int))];simp);have Q8:((m:Int) != (q:Int))=true:=by simp;omega
  (try unfold f8);go_in
  go_wp2_with fail;refine HV.mono ?_;rintro e w1 ⟨rfl,hx⟩;have c0:w1.cell? (O w.heap.size 0)=some (U q):=hx.o6 j7;have X1:=I (HX.trans hx);clear hx;go_wp2;go_ret;exact⟨ag HP.symm,X1⟩
 ):σ:=h
theorem mL{w:J}{p:Int}{a:l9}{n cap:Nat}{V:o3}(h:d9 w a n cap V){b:l9}{m EM:Nat}(hx:i6 w b m EM X):
 f8 40 #[FS p a n cap,GI b m EM] w (bl (EG p V X)):=by
 have qq0:=@bY;have qq1:=@jT;have qq2:=@uL;have qq3:=@iK;have qq4:=@cL;exact OY
end
section
variable{V:o3}{X:l7}{m k:Nat}
def NR(v:Int)(r:o4):Option (Int×Int):=if(D9 (v,1) r).2=true then some (D9 (v,1) r).1 else none
def FK(V:o3)(X:l7)(s:Nat):Option (Int×Int):=(cv X s).bind (NR (V[s]?.getD 0))
def L6(V:o3)(X:l7)(lo m:Nat):Option (l7):=LE (λk=>FK V X (lo+k)) m
def ET(p:Int)(V:o3)(X:l7):Option (l7):=if EG p V X=true then L6 V X 1 (JL V-2) else none
def fE(p:Int)(V:o3)(X:l7):Bool:=match ET p V X with
 | none=>false
 | some l=>l.all λe=>decide (e.1<=0)
theorem vH{p:Int}(h:EG p V X=false):ET p V X=none:=by unfold ET;rw[f7 (by rw[h];simp)]
theorem lI{p:Int}(h:EG p V X=true):ET p V X=L6 V X 1 (JL V-2):=by unfold ET;rw[f9 h]
theorem dO{p:Int}{l:l7}(h:ET p V X=some l):EG p V X=true/\JL l=JL V-2:=by
 unfold ET at h;split at h
 ·next E=>exact⟨E,cX h⟩
 cases h
theorem dU{p:Int}(h:EG p V X=true):ak p V=true:=by
 unfold EG at h;simp only[eI]at h;exact h.1
theorem rI{p:Int}(h:EG p V X=true):ak p V=true/\(JL X:Int)=p/\FM X=true/\cv X (JL V-1)=some (bu p V,1):=by
 unfold EG at h;simp only[eI,ef]at h;exact h
abbrev RR:Type:=o4
variable{l:List RR}{x y:RR}
def LG(x y:RR):Bool:=!decide (DM x y<0)
theorem iR(hx:z7 x=true)(E:z7 y=true):LG x y=true↔val y<=val x:=by
 rw[<-oB hx E];unfold LG;simp
theorem kW(hx:z7 x=true)(E:z7 y=true):LG x y=true∨LG y x=true:=by
 rw[iR hx E,iR E hx];rcases Rat.le_total (a:=val y) (b:=val x)with h|h
 ·exact .inl h
 exact .inr h
theorem nQ{z:RR}(hx:z7 x=true)(E:z7 y=true)(hz:z7 z=true)(h:LG x y=true)(k:LG y z=true):LG x z=true:=by
 rw[iR hx E]at h;rw[iR E hz]at k;rw[iR hx hz];exact Rat.le_trans k h
theorem wg(hx:z7 x=true)(E:z7 y=true)(h:LG x y=true)(k:LG y x=true):x=y:=by
 rw[iR hx E]at h;rw[iR E hx]at k;exact Af hx E (Rat.le_antisymm k h)
def IP(x:RR)(l:List RR):Nat->Nat
 | 0=>0
 | m+1=>if DM (l[m]?.getD (0,0)) x<0 then IP x l m else m+1
def Qo(x:RR)(l:List RR):List RR:=l.take (IP x l (JL l))++x::l.drop (IP x l (JL l))
def GY(l:List RR):Nat->List RR
 | 0=>[]
 | k+1=>Qo (l[k]?.getD (0,0)) (GY l k)
def Hq(l:List RR):List RR:=GY l l.length
theorem tE(x:RR)(l:List RR):∀m,IP x l m<=m
 | 0=>i8 _
 | m+1=>by
   unfold IP
   split
   ·have:=tE x l m;omega
   omega
theorem og(h:¬DM (l[m]?.getD (0,0)) x<0):IP x l (m+1)=m+1:=by rw[IP,f7 h]
theorem tD(h:DM (l[m]?.getD (0,0)) x<0):IP x l (m+1)=IP x l m:=by rw[IP,f9 h]
theorem rM{x:RR}{l:List RR}:∀{m i:Nat},IP x l m<=i->i<m->DM (l[i]?.getD (0,0)) x<0
 | m+1,i,h,hi=>by
   by_cases hc:DM (l[m]?.getD (0,0)) x<0
   ·rw[tD hc]at h;by_cases E:i=m
    ·rw[E];exact hc
    exact rM h j0
   rw[og hc]at h;omega
theorem xu{x:RR}{l:List RR}:∀{m:Nat},0<IP x l m->¬DM (l[IP x l m-1]?.getD (0,0)) x<0
 | 0,h=>by simp[IP]at h
 | m+1,h=>by
   by_cases hc:DM (l[m]?.getD (0,0)) x<0
   ·rw[tD hc]at h⊢;exact xu h
   rw[og hc,Nat.add_sub_cancel];exact hc
theorem VN(x:RR)(l:List RR):JL (Qo x l)=JL l+1:=by
 have:=tE x l (JL l);unfold Qo;simp only[SW,nR,k6,Lr];omega
theorem mS(l:List RR):∀k,JL (GY l k)=k
 | 0=>rfl
 | k+1=>by rw[GY,VN,mS l k]
theorem Cy(x:RR)(l:List RR):(Qo x l).Perm (l++[x]):=by
 unfold Qo;refine List.perm_middle.trans ?_;rw[Gv];exact(List.perm_append_singleton x l).symm
theorem sE(h:k<JL l):l.take (k+1)=l.take k++[l[k]?.getD (0,0)]:=by
 rw[xl h];simp[h]
theorem oy(l:List RR):∀k,k<=JL l->(GY l k).Perm (l.take k)
 | 0,_=>by simp[GY]
 | k+1,h=>by
   rw[GY,sE j0];exact(Cy _ _).trans ((oy l k j0).append_right _)
theorem uU(l:List RR):(Hq l).Perm l:=by
 have:=oy l (JL l) (i8 _)
 rwa [cT]at this
theorem yT(hx:z7 x=true)(Z:∀y∈l,z7 y=true)(h:l.Pairwise λa b=>LG a b=true):(Qo x l).Pairwise λa b=>LG a b=true:=by
 have⟨p,hp⟩:=e9 (IP x l (JL l));have hle:=tE x l (JL l);have K:l=l.take p++l.drop p:=(Gv p l).symm;have h2:=h;rw[K,List.pairwise_append]at h2;obtain⟨ht,hd,Q4⟩:=h2;have Sx:∀b∈l.drop p,LG x b=true:=by
  intro b hb;obtain⟨i,hi,rfl⟩:=List.mem_drop_iff_getElem.1 hb;have hc:=rM (x:=x) (l:=l) (m:=JL l) (i:=p+i) j0 j0;rw[Id j0,Nm]at hc;have hv:=Z _ (eN (show p+i<JL l by omega));rcases kW hx hv with G|G
  ·exact G
  unfold LG at G;rw[UV hc]at G;cases G
 have Lk:∀a∈l.take p,LG a x=true:=by
  intro a H;obtain⟨i,hi,rfl⟩:=Py.1 H;have hip:i<p:=j0;have LC:p-1<JL l:=j0;have hc:=xu (x:=x) (l:=l) (m:=JL l) j0;rw[<-hp,Id LC,Nm]at hc;have E:LG l[p-1] x=true:=by unfold LG;rw[Ok hc];rfl
  by_cases Jr:i=p-1
  ·subst Jr;exact E
  have:=List.pairwise_iff_getElem.1 h i (p-1) j0 LC j0;exact nQ (Z _ (eN _)) (Z _ (eN _)) hx this E
 unfold Qo;rw[<-hp,List.pairwise_append];refine⟨ht,List.pairwise_cons.2 ⟨Sx,hd⟩,λa H b hb=>?_⟩;rcases SU.1 hb with rfl|hb
 ·exact Lk a H
 exact Q4 a H b hb
theorem UK(G:∀y∈l,z7 y=true)(H:k<=JL l):∀y∈GY l k,z7 y=true:=λy E =>
 G y (List.mem_of_mem_take ((oy l k H).mem_iff.1 E))
theorem pL{l:List RR}(E:∀y∈l,z7 y=true):∀k,k<=JL l->(GY l k).Pairwise λa b=>LG a b=true
 | 0,_=>List.Pairwise.nil
 | k+1,h=>by
   rw[GY];refine yT ?_ (UK E j0) (pL E k j0);rw[Id j0,Nm];exact E _ (eN _)
theorem DC{m:List RR}(E:∀y∈l,z7 y=true)(G:m.Perm l)(hs:m.Pairwise λa b=>LG a b=true):m=Hq l:=by
 refine List.Perm.eq_of_pairwise (le:=λa b=>LG a b=true) (λa b H hb Q K=>wg (E a (G.mem_iff.1 H)) (E b ((uU l).mem_iff.1 hb)) Q K) hs (pL E (JL l) (i8 _)) (G.trans (uU l).symm)
def Il(l:List RR):Nat->List RR
 | 0=>[]
 | k+1=>if 0<k/\l[k]?.getD (0,0)=l[k-1]?.getD (0,0) then Il l k else Il l k++[l[k]?.getD (0,0)]
theorem nD(h:0<k)(e:l[k]?.getD (0,0)=l[k-1]?.getD (0,0)):Il l (k+1)=Il l k:=by rw[Il,f9 ⟨h,e⟩]
theorem nH(h:¬(0<k/\l[k]?.getD (0,0)=l[k-1]?.getD (0,0))):Il l (k+1)=Il l k++[l[k]?.getD (0,0)]:=by rw[Il,f7 h]
theorem pP(l:List RR):∀k,JL (Il l k)<=k
 | 0=>i8 _
 | k+1=>by
   have:=pP l k;rw[Il]
   split
   ·omega
   simp;omega
structure Pa(l M:List RR)(i j:Nat):Prop where
 len:M.length=l.length
 lt:i<j
 pos:0<i
 jl:j<=l.length
 lo:M.take i=Il l j
 hi:∀k,i<=k->M[k]?.getD (0,0)=l[k]?.getD (0,0)
theorem Pa.start(E:0<k)(hl:k<JL l)(G:Il l k=l.take k)(H:l[k]?.getD (0,0)=l[k-1]?.getD (0,0)):Pa l l k (k+1) :=
 ⟨rfl,by omega,E,by omega,by rw[nD E H,G],λ_ _=>rfl⟩
theorem Pa.drop{M:List RR}{i j:Nat}(h:Pa l M i j)(hj:j<JL l)(E:l[j]?.getD (0,0)=l[j-1]?.getD (0,0)):Pa l M i (j+1) :=
 ⟨h.len,by have:=h.lt;omega,h.pos,by omega,by rw[nD (by have:=h.lt;have:=h.pos;omega) E,h.lo],h.hi⟩
theorem Pa.keep{M:List RR}{i j:Nat}(h:Pa l M i j)(hj:j<JL l)(E:¬l[j]?.getD (0,0)=l[j-1]?.getD (0,0)):Pa l (M.set i (l[j]?.getD (0,0))) (i+1) (j+1):=by
 have hi:i<JL M:=by have:=h.lt;have:=h.len;omega
 refine⟨by rw[k7];exact h.len,by have:=h.lt;omega,by omega,by omega,?_,λk hk=>?_⟩
 ·rw[nH (λG=>E G.2),<-h.lo,xl (by rw[k7];exact hi),nm (i8 _),List.getElem_set_self]
 rw[sq j0];exact h.hi k j0
theorem nG(H:k<JL l)(G:Il l k=l.take k)(K:k=0∨¬l[k]?.getD (0,0)=l[k-1]?.getD (0,0)):Il l (k+1)=l.take (k+1):=by
 rw[nH (λQ=>by
    rcases K with E|E;· omega
    exact E Q.2),G,sE H]
def Hf(l:List RR)(e:RR):Nat->o3
 | 0=>[]
 | k+1=>if DM (l[k]?.getD (0,0)) e<0 then Hf l e k else Hf l e k++[((k+1:Nat):Int)]
theorem ob{e:RR}(h:DM (l[k]?.getD (0,0)) e<0):Hf l e (k+1)=Hf l e k:=by rw[Hf,f9 h]
theorem oc{e:RR}(h:¬DM (l[k]?.getD (0,0)) e<0):Hf l e (k+1)=Hf l e k++[((k+1:Nat):Int)]:=by rw[Hf,f7 h]
theorem mw(l:List RR)(e:RR):∀k,JL (Hf l e k)<=k
 | 0=>i8 _
 | k+1=>by
   have:=mw l e k;rw[Hf]
   split
   ·omega
   simp;omega
def LO(l:List RR)(k:Nat):l8:=(Il (Hq l) k).map λe=>Hf l e l.length
def Td(l:List RR):l8:=LO l l.length
theorem CF(h:0<k)(e:(Hq l)[k]?.getD (0,0)=(Hq l)[k-1]?.getD (0,0)):LO l (k+1)=LO l k:=by unfold LO;rw[nD h e]
theorem up(h:¬(0<k/\(Hq l)[k]?.getD (0,0)=(Hq l)[k-1]?.getD (0,0))):LO l (k+1)=LO l k++[Hf l ((Hq l)[k]?.getD (0,0)) l.length]:=by unfold LO;rw[nH h,sr];rfl
theorem wX(l:List RR)(k:Nat):JL (LO l k)<=k:=by unfold LO;rw[dc];exact pP _ _
theorem jb(l:List RR):JL (Hq l)=JL l:=mS l _
def KC(p:Int)(V:o3)(X:List RR):l8:=Td ((ET p V X).getD [])
theorem uo{p:Int}{X:List RR}(h:ET p V X=none):KC p V X=[]:=by unfold KC;rw[h];rfl
theorem od{p:Int}{X:List RR}(h:ET p V X=some l):KC p V X=Td l:=by unfold KC;rw[h];rfl
theorem Xl{X:List RR}{s:Nat}(h:FK V X s=some x):z7 x=true:=by
 unfold FK at h;cases hs:cv X s with
 | none=>rw[hs]at h;cases h
 | some r =>
   rw[hs]at h;change NR _ r=some x at h;unfold NR at h
   split at h
   ·next E =>
    simp only[bq]at h;rw[<-h];unfold D9 at E⊢;split
    ·next h2=>rw[f9 h2]at E;exact jy E
    next h2=>rw[f7 h2]at E;cases E
   cases h
theorem U3{f:Nat->Option RR}{r:List RR}(h:LE f m=some r){P:RR->Prop}(E:∀i x,f i=some x->P x):∀x∈r,P x:=by
 intro x hx;obtain⟨i,hi,rfl⟩:=Yi.1 hx;have hl:=cX h;have:=ir h i j0;rw[Id hi,Nm]at this;exact E i _ this
theorem XY{p:Int}{X:List RR}(h:ET p V X=some l):∀y∈l,z7 y=true:=by
 have E:=(dO h).1;rw[lI E]at h;exact U3 h λi x hx=>Xl hx
end
section
def Zh(n:Nat)(z:Nat->Rat)(r:o3):Rat:=A7 (λj=>((r[j]?.getD 0:Int):Rat)*z j) n
structure Ud(n:Nat)(z:Nat->Rat)(m c:Nat)(T:l8):Prop where
 len:T.length=m
 cm:c<=m
 wid:∀i,i<m->(T[i]?.getD []).length=n
 ann:∀i,i<m->Zh n z (T[i]?.getD [])=0
 dia:∀i,i<c->(T[i]?.getD [])[i]?.getD 0≠0
 low:∀i j,i<m->j<i->j<c->(T[i]?.getD [])[j]?.getD 0=0
def OP:Nat->Nat->Nat
 | 0,_=>1
 | n+1,B=>B*OP n (2*B*B)
def Xw{B p a c r:Int}(h0:0<=B)(K:-B<=p/\p<=B)(H:-B<=a/\a<=B)(G:-B<=c/\c<=B)(E:-B<=r/\r<=B):-(2*B*B)<=p*a-c*r/\p*a-c*r<=2*B*B:=by
 have e:∀x y:Int,-B<=x/\x<=B->-B<=y/\y<=B->-(B*B)<=x*y/\x*y<=B*B:=λx y hx hy=>by
  have a1:=B3 (show 0<=B-x by omega) (show 0<=B+y by omega);have a2:=B3 (show 0<=B+x by omega) (show 0<=B-y by omega);have a3:=B3 (show 0<=B-x by omega) (show 0<=B-y by omega);have a4:=B3 (show 0<=B+x by omega) (show 0<=B+y by omega);constructor<;>grind
 have:=e p a K H;have:=e c r G E
 grind
end
section
variable{a b:l9}{m n EM:Nat}{V:o3}{w:J}{X:l7}
theorem XC(b:Bool):0<=D3 b/\D3 b<=1:=by cases b<;>decide
theorem V7{a b:Int}{A B:Nat}(h:a.natAbs<=A)(k:b.natAbs<=B):(a*b).natAbs<=A*B:=by rw[WR];exact EE h k
theorem R7{x:o4}{M:Nat}{m:Int}(E:z7 x=true)(hM:1<=M)(h:(M:Rat)*val x=(m:Rat)):Fr x m (M:Int):=by
 refine⟨E,by omega,?_⟩;have hb:=aU E;have h2:((x.2:Int):Rat)≠0:=fF j0;unfold val at h;have e:((x.1:Int):Rat)*(M:Rat)=(m:Rat)*(x.2:Rat):=by grind
 have G:(((x.1*(M:Int)):Int):Rat)=((m*x.2:Int):Rat):=by
  rw[RB,RB,<-e];have:(((M:Nat):Int):Rat)=(M:Rat):=by push_cast;rfl
  rw[this]
 exact_mod_cast G
theorem V9:∀n:Fin 5,OP n.val 1<=2048:=by decide
def eB(n k:Nat):o3:=DK (EK 1 (n-2)) k++[-1]
def eZ(q n:Nat):l8:=(List.range q).map (eB n)++[List.replicate (n-2) 1++[0]]
def fV(q:Nat):o3:=List.replicate q 0++[1]
def dQ(p:Int)(V:o3):l7:=(aW V).take (JL V-2)++[(bu p V,1)]
def iT(p:Int)(V:o3):G9:=bG az (eZ p.toNat (JL V)) (fV p.toNat) (dQ p V)
theorem AY{p:Int}(h:2<=JL V):JL (dQ p V)=JL V-1:=by unfold dQ aW;simp;omega
theorem AZ{p:Int}{j:Nat}(E:j<JL V-2):(dQ p V)[j]?.getD (0,0)=(-(V[1+j]?.getD 0),1):=by
 unfold dQ;rw[tv (by unfold aW;simp;omega),XD,f9 E];unfold aW;rw[vM,XJ,Id j0];rfl
theorem Ba{p:Int}(h:2<=JL V):(dQ p V)[JL V-2]?.getD (0,0)=(bu p V,1):=by
 unfold dQ;have E:((aW V).take (JL V-2)).length=JL V-2:=by unfold aW;simp;omega
 rw[Sl j0,E,Y'];rfl
theorem Bb{p:Int}(h:ak p V=true):bG az (eZ p.toNat (JL V)) (fV p.toNat) (dQ p V)=fc (eZ p.toNat (JL V)) (fV p.toNat) (dQ p V):=by
 obtain⟨q,D4,Q,K,hlen,_,hb⟩:=ap h;have Mu:=bp q K;have G:2<=JL V:=by
  rw[hlen];have:∀n:Fin 6,1<=n.val->2<=cN n.val:=by decide
  exact this ⟨q,by omega⟩ Q
 refine jW λ_ j H=>?_;rw[AY G]at H;by_cases E:j<JL V-2
 ·have hm:=hb _ (eN (show 1+j<JL V by omega));refine xt ⟨-(V[1+j]?.getD 0),AZ E,?_⟩;rw[Id j0,Nm];omega
 obtain rfl:j=JL V-2:=j0;have hm:=hb _ (eN (show JL V-1<JL V by omega));refine xt ⟨bu p V,Ba G,?_⟩;rw[eT h,Id j0,Nm];omega
theorem Uy:∀n:Fin 6,2<=n.val->4<=cN n.val:=by decide
def Jb(p:Int)(V:o3):Bool:=(ak p V&&decide (2<=p))&&decide ((iT p V).status=1)
def MG(p:Int)(V:o3):l7:=((iT p V).Y.take p.toNat).map C5
theorem iX{v:arQ}{a b:Bool}(h:a=b):ar (.tuple #[v,bl a])=ar (.tuple #[v,bl b]):=by rw[h]
theorem WV.Su(w:J)(base n:Nat)(E:n=w.heap.size)(hb:base<=w.heap.size):WV (w.alloc (QD #[] 56)) base (EQ n 0 0) []:=by subst E;exact WV.made w base hb
def Wl(h:σ:=by
 go_wp2;refine Fn LZ rfl ⟨by rw[HN.o];rfl,(XF.store 0 j0 _).store 1 j0 _⟩
 ):σ:=h
theorem rW{p:Int}{cap:Nat}(h:d9 w a n cap V)(hx:i6 w b m EM X)(hg:ak p V=true){s:Nat}(hs:s<n):
 f8 260 #[FS p a n cap,GI b m EM,.int .i64 (s:Int)] w (IN ((FK V X s).getD (0,0),(FK V X s).isSome)):=by
 have⟨W,H⟩:=e9 ((w.alloc (QD #[.int .i64 p,GI a n cap] 31)).alloc (QD #[.int .i64 0,.int .i64 0] 56));have DW:=I (show W.heap.size=w.heap.size+2 by rw[H];simp);have hX:C7 w W:=by rw[H];exact WU.trans WU
 refine z6 (show W.heap[w.heap.size+1]?=some (QD #[.int .i64 0,.int .i64 0] 56 (0,0))by rw[H];exact IO j7) (show W.cell? ⟨w,0,none⟩=some (.int .i64 p)by rw[H];exact C7.o6 WU j7) (show W.cell? ⟨w,1,none⟩=some (GI a n cap)by rw[H];exact C7.o6 WU j7) (h.ext hX) (hx.ext hX) hX λDO I9 Jt HI HR HX=>?_;have HV:=I (bY (p:=p) HI);rw[hg,H]at HV;have HL:=I h.hlen;obtain⟨q,rfl,Hh,JF,QE,_,Mx⟩:=ap hg;have hc:=bp q JF;have GQ:n<=32:=k8 HL.o;have IG:=I (λi=>dp Mx i);have r8:=h.r8;have r9:=h.r9;have D7:A4 (s:Int) 0 ((n:Int)-1)=true:=by unfold A4;simp;omega
 clear h hx hX hg QE Mx;(try unfold f8);go_in
 go_wp2_with fail;refine HV.mono ?_;rw[<-H];rintro e w1 ⟨rfl,A'⟩;have X1:=I A';have b0:=A'.o6 I9.o;have b1:=A'.o6 Jt.o;clear A' H;go_wp2_with fail;refine ta.mono ?_;rw[D7];rintro e w2 ⟨rfl,rfl⟩;clear D7;go_wp2_with fail;refine(uL (HR.ext X1) s j0).mono ?_;obtain⟨Z,K,one,hr⟩:∃Z K one,((cv X s).getD (0,0),(cv X s).isSome)=(((Z,K):o4),one):=⟨_,_,_,rfl⟩;rw[hr];have R9:=I hr;rintro e w3 ⟨rfl,B5⟩;have⟨E,FY⟩:=e9 (w3.alloc (QD #[.int .i64 Z,.int .i64 K] 56));have DN:C7 w3 E:=by rw[FY];exact WU
 have X4:=I ((X1.trans B5).trans DN);have c0:=(B5.trans DN).o6 b0;have c1:=(B5.trans DN).o6 b1;have d0:E.cell? ⟨w3,0,none⟩=some (.int .i64 Z):=by rw[FY];simp
 have d1:E.cell? ⟨w3,1,none⟩=some (.int .i64 K):=by rw[FY];simp
 obtain⟨vb,vo,rfl,MJ⟩:=(HI.ext X4).at hs;have⟨v,hv⟩:=e9 (V[s]?.getD 0);rw[<-hv]at MJ;obtain⟨p2,q2,ok,D4⟩:∃p2 q2 ok,D9 (v,1) (Z,K)=((p2,q2),ok):=⟨_,_,_,rfl⟩;have EJ:=I D4;have FH:=I hv;clear hr B5 DN b0 b1 hv D4;go_upto_region 4 with fail;rw[<-FY];clear FY;go_upto_region 4 with fail
 go_cut [10,11] (λsx so wx=>∃g:Nat,sx=aP (some ⟨g,0,none⟩)/\so=bl ok/\b9 (ah E wx g p2 q2))
 case first =>
  have o7:=C7.drew E;have D0:C7 E (E.alloc (QD #[.int .i64 0,.int .i64 0] 56)).drew:=WU.trans cn;have o8:=I (λ(w':J) (h:C7 E w')=>(an (h.o6 c1) (an (h.o6 MJ) (an (h.o6 d0) (an (h.o6 d1) h)))))
  go_region_held3 (λw'=>w'.cell? ⟨w,1,none⟩=some (GI (some ⟨vb,vo,none⟩) n cap)/\w'.cell? ⟨vb,vo+s,none⟩=some (.int .i64 v)/\w'.cell? ⟨w3,0,none⟩=some (.int .i64 Z)/\w'.cell? ⟨w3,1,none⟩=some (.int .i64 K)/\C7 E w')
   (exact Hz)
   (first
     | ((with_reducible refine(cL _ _).mono ?_)
        rintro e w5 ⟨rfl,B0⟩
        first|(with_reducible have A1:=ah.grow A1 B0)|(with_reducible have A1:=ah.DS B0)|(with_reducible have A1:=ah.DX o7 B0)|skip
        first|(have IX:=A1.c0;have IW:=A1.c1;have Kf:=A1.free)|skip
        have o7:C7 E w5:=XG;have FB:=o7.size)
     | ((with_reducible refine(qB _ _ _ _ _).mono ?_)
        rw[EJ.o];rintro e w6 ⟨rfl,Iy⟩
        first|(with_reducible have A1:=ah.grow A1 Iy)|(with_reducible have A1:=ah.DS Iy)|(with_reducible have A1:=ah.DX o7 Iy)|skip
        first|(have IX:=A1.c0;have IW:=A1.c1;have Kf:=A1.free)|skip
        have o7:C7 E w6:=Zu;have FB:=o7.size))
  all_goals(exact Jm)
 obtain⟨g,rfl,rfl,HB⟩:=hcut;have g0:=HB.c0;have g1:=HB.c1;have XC:=I (X4.trans HB.ext);have hr:=bO ((XC.block _ (k8 DW.o)).trans DO);obtain⟨Eb,Eh,Ip⟩:=hr;have XF:=I (HX.trans XC);cases one
 ·have HN:=I (show FK V X s=none by
   have:=R9.o;simp only[wb]at this;unfold FK;cases G:cv X s with
   | none=>rfl
   | some r=>rw[G]at this;simp at this)
  have qq0:=@TV;exact Wl
 have HN:=I (show FK V X s=if ok=true then some (p2,q2) else none by
  have:=R9.o;simp only[wb]at this;unfold FK;cases G:cv X s with
  | none=>rw[G]at this;simp at this
  | some r =>
    rw[G]at this;simp only[Nm]at this;rw[this.1];show NR (V[s]?.getD 0) (Z,K)=_;unfold NR;rw[<-FH.o,EJ.o])
 cases ok
 ·have qq0:=@TV;exact Wl
 have qq0:=@TV;exact Wl
def NM(h:σ:=by
 subst o7;go_wp2;go_ret2;exact⟨⟨_,iX (by rw[HA.o];unfold L6;rw[Fv.o];rfl),by rw[HA.o];unfold L6;rw[Fv.o];exact HO.mono ly⟩,HX.trans XR.o⟩
 ):σ:=h
theorem mN{p:Int}{cap:Nat}(h:d9 w a n cap V)(hx:i6 w b m EM X):
 Calls Tryz.prog 185 #[FS p a n cap,GI b m EM] w λe w'=>(∃v,e=ar (.tuple #[v,bl (ET p V X).isSome])/\WV w' w v ((ET p V X).getD []))/\C7 w w':=by
 have HX:=I (C7.alloc w (QD #[.int .i64 p,GI a n cap] 31));refine t8 (h.ext HX) (hx.ext HX) h.hlen λHI HR HL=>?_;have r8:=h.r8;have r9:=h.r9;have HP:=I (λ(w':J) (E:C7 (w.alloc (QD #[.int .i64 p,GI a n cap] 31)) w')=>mL (p:=p) (HI.ext E) (HR.ext E));have k0:(w.alloc (QD #[.int .i64 p,GI a n cap] 31)).cell? ⟨w,0,none⟩=some (.int .i64 p):=j7;have k1:(w.alloc (QD #[.int .i64 p,GI a n cap] 31)).cell? ⟨w,1,none⟩=some (GI a n cap):=j7;have⟨W,Z⟩:=e9 (w.alloc (QD #[.int .i64 p,GI a n cap] 31));rw[<-Z]at HX HI HR HP k0 k1;have DW:=I (show W.heap.size=w.heap.size+1 by rw[Z];simp);have k0':=(C7.alloc W (QD #[] 56)).o6 k0;have k1':=(C7.alloc W (QD #[] 56)).o6 k1;clear h hx;go_in
 go_upto_region 2 with fail;rw[<-Z];clear Z;go_wp2_with fail;refine IR (HP _ (C7.alloc W (QD #[] 56))) λw1 A'=>?_;have X1:=I ((C7.alloc W (QD #[] 56)).trans A');have H:b9 (WV w1 W (GI (some ⟨w.heap.size+1,0,none⟩) 0 0) []):=DW.o▸(WV.made W W (i8 _)).ext A';clear A' k0' k1';cases G:EG p V X
 ·have HN:=I (vH G);clear G;go_wp2;go_ret2;exact⟨⟨_,iX cF,by rw[HN.o];exact H.mono ly⟩,HX.trans X1.o⟩
 have HA:=I (lI G);have HG:=I (dU G);obtain⟨q,D4,Hh,JF,QE,_,Mx⟩:=ap HG.o;have hc:=bp q JF;have GQ:n<=32:=k8 HL.o;have Nf:2<=n:=by
  have:∀q:Fin 6,1<=q.val->2<=cN q.val:=by decide
  have:=this ⟨q,by omega⟩ Hh;simp only at this;have:=HL.o;omega
 rw[HL.o]at HA;clear G D4 QE Mx;go_wp2
 go_loopg [6,7] (n-2) (λgk oo ii wr=>∃(k s:Nat) (a1:l9) (n1 p1:Nat) (r:l7),b9 (gk+k=n-2)/\b9 (s=1+k)/\oo=GI a1 n1 p1/\ii=.int .i64 (s:Int)/\b9 (LE (λk=>FK V X (1+k)) k=some r)/\b9 (WV wr W (GI a1 n1 p1) r)/\b9 (C7 W wr))
 ·exact⟨0,1,_,_,_,[],I j0,I rfl,rfl,rfl,I rfl,H,X1⟩
 obtain⟨k,s,a1,n1,p1,r,aa,HK,rfl,rfl,Fv,HO,XR⟩:=hrel;have c0:=XR.o6 k0;have c1:=XR.o6 k1;have hsz:=XR.size;have IK:1<=s:=k8 HK.o;by_cases hlt:s+1<n
 ·have HE:=I (rW (p:=p) (HI.ext XR) (HR.ext XR) HG.o (s:=s) j0);obtain⟨x,y,ok,Eo⟩:∃x y ok,((FK V X s).getD (0,0),(FK V X s).isSome)=(((x,y):o4),ok):=⟨_,_,_,rfl⟩;rw[Eo]at HE;have Lv:=I Eo;clear Eo;go_wp2_with fail;refine IR HE λw3 B5=>?_;have X4:=I ((XR.trans B5).trans (C7.alloc w3 (QD #[.int .i64 x,.int .i64 y] 56)));have EI:=I ((HO.ext B5).ext (C7.alloc w3 (QD #[.int .i64 x,.int .i64 y] 56)));have J8:=(XR.trans B5).size;clear B5;cases ok
  ·have HN:=I (show ET p V X=none by
    rw[HA.o];unfold L6;refine fs Fv.o ?_ (show k<n-2 by have:=HK.o;omega);rw[<-HK.o];have:=Lv.o;simp only[wb]at this;cases K:FK V X s with
    | none=>rfl
    | some z=>rw[K]at this;simp at this)
   go_wp2;go_ret2;exact⟨⟨_,iX cF,by rw[HN.o];exact WV.Su _ _ _ j7 (by have:=X4.size;have:=HX.size;omega)⟩,(HX.trans X4).trans WU⟩
  have I7:=I (ea (x:=(x,y)) Fv.o (by
   rw[<-HK.o];have:=Lv.o;simp only[wb]at this;cases K:FK V X s with
   | none=>rw[K]at this;simp at this
   | some z=>rw[K]at this;simp at this;rw[this]))
  have Ft:=I (cX Fv);have hk32:k<=32:=k8 HK.o
  go_wp2_with (first
   | (at_builtin;refine Ot x y EI X4 WB λa2 n2 c2 w5 Hb X5 DT=>?_))
  go_roundg (gk-1)
  case measure=>have:=aa.o;exact cS
  exact⟨k+1,s+1,a2,n2,c2,_,I (by have:=aa.o;have:=HK.o;omega),I (k8 HK.o),rfl,by go_num,I7,DT,X5⟩
 have o7:k=n-2:=by have:=aa.o;have:=HK.o;omega
 exact NM
theorem U2{p:Int}{cap:Nat}(h:d9 w a n cap V)(hx:i6 w b m EM X):
 f8 114 #[FS p a n cap,GI b m EM] w (bl (fE p V X)):=by
 have K:=I (C7.alloc w (QD #[U p,GI a n cap] 31));have HA:=I (mN (p:=p) (h.ext K) (hx.ext K));clear h hx;unfold f8;go_in
 go_wp2_with fail;refine PP HA λw1 v ho A'=>?_;have X1:=I (K.trans A');have⟨o,E⟩:=e9 (ET p V X);rw[<-E]at ho;rw[<-E];have⟨l,H⟩:=e9 (o.getD []);rw[<-H]at ho;obtain⟨al,G,cl,rfl,HN⟩:=ho.var;have⟨Hh,IB⟩:=ho.rats.aq9;have HO:=I ho;have HC:=I (show fE p V X=(o.isSome&&l.all λe=>decide (e.1<=0))by
  unfold fE;rw[<-E,H]
  cases o<;>rfl)
 clear ho E H;go_wp2
 go_loopg [7] G (λgk ii wr=>∃(k:Nat),b9 (gk+k=G)/\ii=U k/\b9 ((l.take k).all (λe=>decide (e.1<=0))=true)/\b9 (C7 w1 wr))
 ·exact N0
 obtain⟨k,HK,rfl,Z,X2⟩:=hrel;by_cases hlt:k<G
 ·obtain⟨xb,xo,x,y,rfl,Eo,D1,Eu⟩:=(HO.rats.ext X2).at hlt;have Lv:=I Eo;clear Eo;by_cases Ih:0<x
  ·have Hb:=I (show fE p V X=false by
    rw[HC.o,tq];refine .inr ?_;rw[Wg];intro ES;have:=gy.1 ES (l[k]' R0) (eN _);have e:=Lv.o;rw[Id R0,Nm]at e;rw[e]at this;simp only[ef]at this;omega)
   go_wp2;go_ret;exact⟨ag Hb.symm,X1.trans X2.o⟩
  have HT:=I (show(l.take (k+1)).all (λe=>decide (e.1<=0))=true by
   rw[es R0,tn,Z.o,Lv.o];simp only[Zd,QV,Y9,y6,ef];omega)
  exact W2
 have Ju:=I (show fE p V X=o.isSome by
  have h:=Z.o;rw[bR (by rw[HN.o];omega)]at h
  rw[HC.o,h,Y9])
 go_wp2;go_ret;exact⟨ag Ju.symm,X1.trans X2.o⟩
