import Derived.Test.YtalmoolkhcgmmaaGreatNqAltG17
import Derived.Test.YtalmoolkhcgmmaaGreatNqAltG14
import Derived.Test.YtalmoolkhcgmmaaGreatNqAltG5
import Derived.Test.YtalmoolkhcgmmaaGreatNqAltG8
import Derived.Test.YtalmoolkhcgmmaaGreatNqAltG43
import Derived.Test.YtalmoolkhcgmmaaGreatNqAltG13
import Derived.Test.YtalmoolkhcgmmaaGreatNqAltG1
set_option linter.unusedVariables false
set_option linter.unusedSimpArgs false
namespace Go.Proofs.YtalmoolkhcgmmaaGreat
variable{V:j9}{L:j5}{n k f:Nat}{w:World}{a:j8}{pt l:j6}{fid:FuncId}
set_option maxHeartbeats 16000000
set_option maxRecDepth 100000
open Go.RowKit
theorem ow{p:Int}(h:xH p V L=true):EM p V L=stA p.toNat V L/\EL p V L=CW p.toNat/\EK p V L=Bs V L:=by unfold EM EL EK;rw[h];exact⟨rfl,rfl,rfl⟩
theorem qQ{α β:Type}(f:α->β)(A B T:List α):(A++B).map f++T.map f=(A++(B++T)).map f:=by simp
theorem me{p:Int}(hg:dE p V L=true)(hn:V.length=n)(h1:1<=n)(G:∀y∈V,-500<=y/\y<=500):xH p V L=(zJ n L).all (EV V):=by
 unfold xH;rw[hg,uF hn h1 G];rfl
theorem vm{p:Int}{cap:Nat}(hV:Ints w a n cap V){fa:j8}{fn A1:Nat}(h:zk w fa fn A1 L)(hfn:fn<=1048576):
 Calls Tryz.prog 21 #[pair p a n cap,.slice fa fn A1] w fun e w' =>
  mo w' w.heap.size e (EM p V L) (EL p V L) (EK p V L) (xH p V L)/\Ext w w':=by
 obtain⟨W,hW⟩:=b8 ((w.alloc (.cells #[.int .i64 p,.slice a n cap] 26)).alloc (.cells #[.slice none 0 0,.slice none 0 0,.slice none 0 0] 52));have yI:=ae (show W.heap.size=w.heap.size+2 by rw[hW];simp);have wM:=ae (show Ext w W by rw[hW];exact(Ext.alloc _ _).trans (Ext.alloc _ _));have Kl:=ae (show W.cell? ⟨w.heap.size,1,none⟩=some (.slice a n cap)by rw[hW];simp);have Jd:=ae (show W.cell? ⟨w.heap.size,0,none⟩=some (.int .i64 p)by rw[hW];simp);have Uk:=ae (show W.heap[w.heap.size+1]?=some (.cells #[.slice none 0 0,.slice none 0 0,.slice none 0 0] 52 (0,0))by rw[hW];exact ak _ _ _ e7);have yD:=ae hV.hlen;have Mc:=hV.o3;have Mb:=hV.l9;have MK:=h.o3;have MJ:=h.l9;have EJ:=ae h.hlen;have HF:=ae (h.ext wM.o);have Dw:=ae (hV.ext wM.o);have HC:=ae (eV (p:=p) (hV.ext wM.o));have PM:(w.heap.size+1)<W.heap.size:=by rw[yI.o];omega
 have xU:=ae (fun(w':World) (hx:Ext W w')=>(hx.block _ PM).trans Uk.o)
 have B5:=ae (fun(w':World) (hx:Ext W w') (hno:xH p V L=false) (e:Ending) (he:e=.returned (.tuple #[.agg #[.slice none 0 0,.slice none 0 0,.slice none 0 0],.bool false])) =>
  show mo (((w'.setCell ⟨w.heap.size+1,0,none⟩ (.slice none 0 0)).setCell ⟨w.heap.size+1,1,none⟩ (.slice none 0 0)).setCell ⟨w.heap.size+1,2,none⟩ (.slice none 0 0)) w.heap.size e (EM p V L) (EL p V L) (EK p V L) (xH p V L)/\Ext w (((w'.setCell ⟨w.heap.size+1,0,none⟩ (.slice none 0 0)).setCell ⟨w.heap.size+1,1,none⟩ (.slice none 0 0)).setCell ⟨w.heap.size+1,2,none⟩ (.slice none 0 0))from
   ⟨⟨_,_,_,[],by rw[hno];exact he,xe.nil _ _,by unfold EM;rw[hno,if_neg e7];exact bC.nil _ _,by unfold EL;rw[hno,if_neg e7];exact o8.nil _ _,by unfold EK;rw[hno,if_neg e7];exact l8.nil _ _,Cm.nil _⟩,
     (((wM.o.trans hx).store 0 b9 _).store 1 b9 _).store 2 b9 _⟩)
 clear h hV PM;cases hg:aZ p V
 ·have HG:=ae (show xH p V L=false by unfold xH dE;rw[hg];rfl);rw[hg,hW]at HC;clear hg;go_enter Tryz.func21,Tryz.ntmps21
  go_wp2_with fail;refine HC.o.mono ?_;rw[<-hW];rintro e w1 ⟨rfl,wO⟩;have yN:=xE.A3 (xU.o w1 wO);have yC:=xE.A2 (xU.o w1 wO);have AX:=xE.BI (xU.o w1 wO);have CZ:=xE.B4 (xU.o w1 wO);have xz:=ae wO;clear wO;go_wp2_with fail;refine bodyPost_ret (v:=.tuple #[.agg #[.slice none 0 0,.slice none 0 0,.slice none 0 0],.bool false]) (by simp[results,Tryz.results21,go_sem,yN,yC,AX]) rfl (B5.o _ xz.o HG.o _ rfl)
 ·obtain⟨q,rfl,h1,h5,hlen,_,AD⟩:=aW hg;have N1:=ae hg;rw[hg,hW]at HC;clear hg;by_cases BM:q<2
  ·have HG:=ae (show xH (q:Int) V L=false by unfold xH dE;rw[N1.o,decide_eq_false (by omega:¬(2:Int)<=(q:Int))];rfl);clear hlen AD;have Mp:(q:Int)<2:=by omega
   go_enter Tryz.func21,Tryz.ntmps21
   go_wp2_with fail;refine HC.o.mono ?_;rw[<-hW];rintro e w1 ⟨rfl,wO⟩;have y5:=wO.k6 Jd.o;have yN:=xE.A3 (xU.o w1 wO);have yC:=xE.A2 (xU.o w1 wO);have AX:=xE.BI (xU.o w1 wO);have CZ:=xE.B4 (xU.o w1 wO);have xz:=ae wO;clear wO;go_wp2_with fail;refine bodyPost_ret (v:=.tuple #[.agg #[.slice none 0 0,.slice none 0 0,.slice none 0 0],.bool false]) (by simp[results,Tryz.results21,go_sem,yN,yC,AX]) rfl (B5.o _ xz.o HG.o _ rfl)
  ·have EF:4<=n:=by have:=I9 (n:=q) b9 h5;rw[<-yD.o,hlen];exact this
   have CH:n<=32:=by have:=cu q h5;rw[<-yD.o,hlen];exact this.2
   obtain⟨u,rfl⟩:∃u,n=u+1:=⟨n-1,by omega⟩;have Ha:=ae AD
   have HOG:=ae (show dE (q:Int) V L=(CC L ((u:Int)-1) fn&&decide (0<(bd L (u+1-2)).length))by
    unfold dE;rw[N1.o,decide_eq_true (by omega:(2:Int)<=(q:Int)),yD.o,EJ.o]
    rw[show(((u+1:Nat):Int))-2=(u:Int)-1 by omega];rfl)
   have Mp:¬(q:Int)<2:=by omega
   have D7:((u+1:Nat):Int)-1=(u:Int):=by omega
   clear hlen AD;go_enter Tryz.func21,Tryz.ntmps21
   go_wp2_with fail;refine HC.o.mono ?_;rw[<-hW];clear hW;rintro e w1 ⟨rfl,wO⟩;have y5:=wO.k6 Jd.o;have yq:=wO.k6 Kl.o;have xz:=ae wO;clear wO HC;go_wp2_with fail;clear y5 yq
   go_loopg [7,39] fn (fun gk ss ii wr=>∃k:Nat,b7 (gk+k=fn)/\ii=.int .i64 (k:Int)/\ss=.int .i64 ((gq (L.take k):Nat):Int)/\b7 (CC L ((u:Int)-1) k=true)/\b7 (Ext W wr))
   case atStart=>exact⟨0,ae b9,rfl,rfl,ae rfl,xz⟩
   case round =>
    obtain⟨g1,r7⟩:=b8 gk;subst r7;obtain⟨o7,o6⟩:=b8 wr;subst o6;obtain⟨k,HK,rfl,rfl,HO,HX⟩:=hrel;have Db:=HX.o.size;rw[yI.o]at Db;by_cases hlt:k<fn
    ·obtain⟨b,off,c,x,y,rfl,xW,IY,MM,ML⟩:=(HF.o.ext HX.o).at hlt;have yQ:k<L.length:=by rw[EJ.o];exact hlt
     have J5:=xU.o o7 HX.o;have GX:IntKind.i64.wrap ((u:Int)-1)=(u:Int)-1:=by rw[IntKind.wrap_i64];omega
     cases hb:wJ c 1 ((u:Int)-1)
     ·have HG:=ae (show xH (q:Int) V L=false by
       unfold xH;rw[HOG.o,ij (k:=k) (m:=fn) (by rw[xW];simp only;rw[hb];rfl) hlt];rfl)
      have D5:=xU.o _ (HX.o.trans (Ext.alloc o7 (.cells #[.int .i64 c,.int .i64 x,.int .i64 y] 62)));have yN:=xE.A3 D5;have yC:=xE.A2 D5;have AX:=xE.BI D5;have CZ:=xE.B4 D5;clear D5;clear xW J5;go_wp2_with (first|(go_at_call 49;refine(aK _ _ _ _).mono ?_;rw[hb];rintro e w' ⟨rfl,rfl⟩));refine bodyPost_ret (v:=.tuple #[.agg #[.slice none 0 0,.slice none 0 0,.slice none 0 0],.bool false]) (by simp[results,Tryz.results21,go_sem,yN,yC,AX]) rfl (B5.o _ (HX.o.trans (Ext.alloc _ _)) HG.o _ rfl)
     ·have Kc:1<=c/\c<=(u:Int)-1:=by unfold wJ at hb;simpa using hb
      obtain⟨t,rfl⟩:∃t:Nat,c=t:=⟨c.toNat,by omega⟩;have ZY:∀f∈L.take k,1<=f.1/\f.1<=(u:Int)-1:=by
       intro f hf;obtain⟨i,hi,rfl⟩:=List.mem_take_iff_getElem.1 hf;have:=(List.all_eq_true.1 HO.o) i (List.mem_range.2 b9);rw[List.getElem?_eq_getElem b9]at this;simp only[Option.getD_some,Bool.and_eq_true,wJ,decide_eq_true_eq]at this;exact this.1
      have U2:=K2 (L.take k) (fun f hf=>by have:=ZY f hf;omega);have Kd:=pY ((gq (L.take k):Nat):Int) t b9 b9;rw[Qt,wy t _ (fun f hf=>by have:=ZY f hf;omega)]at Kd;have hpw:=Lq t b9;have hkw:IntKind.i64.wrap ((2:Int)^t)=2^t:=by rw[IntKind.wrap_i64];omega
      cases hh:yw (L.take k) (t:Int)
      ·rw[hh]at Kd;have HN:=ae (show CC L ((u:Int)-1) (k+1)=true by rw[pe,HO.o,xW];simp only;rw[hb,hh];rfl);have IP:=uB yQ;rw[xW]at IP;simp only[Int.toNat_natCast]at IP;have PO:=SF (k:=t) U2 b9;rw[<-IP]at PO;clear IP xW ZY hh;obtain⟨s0,B0⟩:=b8 (gq (L.take k));obtain⟨s1,Cu⟩:=b8 (gq (L.take (k+1)));rw[<-B0]at Kd PO U2;rw[<-Cu]at PO;rw[<-B0];have JL:=ae Cu;clear B0 Cu;go_wp2_with (first|(go_at_call 49;refine(aK _ _ _ _).mono ?_;rw[hb];rintro e w' ⟨rfl,rfl⟩))
       go_roundg (g1-1)
       case measure=>have:=HK.o;omega
       case rel=>exact⟨k+1,ae (j4 HK.o),by go_num,by rw[<-JL.o],HN,ae (HX.o.trans (Ext.alloc _ _))⟩
      ·rw[hh]at Kd
       have HG:=ae (show xH (q:Int) V L=false by
        unfold xH;rw[HOG.o,ij (k:=k) (m:=fn) (by rw[xW];simp only;rw[hh];simp) hlt];rfl)
       have D5:=xU.o _ (HX.o.trans (Ext.alloc o7 (.cells #[.int .i64 (t:Int),.int .i64 x,.int .i64 y] 62)));have yN:=xE.A3 D5;have yC:=xE.A2 D5;have AX:=xE.BI D5;have CZ:=xE.B4 D5;clear D5;clear xW J5 ZY hh;obtain⟨s0,B0⟩:=b8 (gq (L.take k));rw[<-B0]at Kd U2;rw[<-B0];clear B0;go_wp2_with (first|(go_at_call 49;refine(aK _ _ _ _).mono ?_;rw[hb];rintro e w' ⟨rfl,rfl⟩));refine bodyPost_ret (v:=.tuple #[.agg #[.slice none 0 0,.slice none 0 0,.slice none 0 0],.bool false]) (by simp[results,Tryz.results21,go_sem,yN,yC,AX]) rfl (B5.o _ (HX.o.trans (Ext.alloc _ _)) HG.o _ rfl)
    ·have Vb:k=fn:=by have:=HK.o;omega
     subst Vb;have Vj:∀f∈L,1<=f.1/\f.1<=(u:Int)-1:=by
      intro f hf;obtain⟨i,hi,rfl⟩:=List.getElem_of_mem hf;have:=(List.all_eq_true.1 HO.o) i (List.mem_range.2 (by rw[<-EJ.o];exact hi));rw[List.getElem?_eq_getElem hi]at this;simp only[Option.getD_some,Bool.and_eq_true,wJ,decide_eq_true_eq]at this;exact this.1
     have y4:=ae Vj;have JW:=ae (iA (w:=o7) (q:Int) a (u+1) cap b9 b9 (HF.o.ext HX.o));have Ks:=ae (fun s=>iU (L:=L) (m:=u+1-2) (s:=s));have C5:=ae (ew L (u+1-2));have hcA:=HX.o.k6 Jd.o;have hcB:=HX.o.k6 Kl.o;clear Vj;go_wp2_with fail;refine JW.o.mono ?_;rintro e w2 ⟨⟨vf,rfl,P5⟩,xg⟩;obtain⟨af,m,cf,rfl,Ve⟩:=P5.var;have xZ:=ae (HX.o.trans xg);have UI:=ae (P5.mono (base':=w.heap.size+2) Db);have Ge:=ae Ve.out;have ZJ:m<=32:=by have:=C5.o;have:=Ve.out;omega
     have Dc:=xZ.o.size;rw[yI.o]at Dc;clear P5 Ve xg hcA hcB JW;by_cases Tf:m=0
     ·subst Tf
      have HG:=ae (show xH (q:Int) V L=false by
       unfold xH;rw[HOG.o,Ge.o];simp)
      have D5:=xU.o _ xZ.o;have yN:=xE.A3 D5;have yC:=xE.A2 D5;have AX:=xE.BI D5;have CZ:=xE.B4 D5;clear D5;go_wp2_with fail;refine bodyPost_ret (v:=.tuple #[.agg #[.slice none 0 0,.slice none 0 0,.slice none 0 0],.bool false]) (by simp[results,Tryz.results21,go_sem,yN,yC,AX]) rfl (B5.o _ xZ.o HG.o _ rfl)
     ·have Jk:=ae (show dE (q:Int) V L=true by rw[HOG.o,HO.o,Ge.o];simp;omega);have hmz:((m:Int) == 0)=false:=by simpa using Tf
      have QT:=ae (mz UI.o.ints b9);have My:=UI.o.ints.o3;have Mw:=UI.o.ints.l9;go_wp2_with fail;refine QT.o.mono ?_;rintro e w3 ⟨vcl,rfl,hco,wS⟩;obtain⟨acl,ncl,ccl,rfl,WV⟩:=hco.var;have HNCL:=ae (show ncl=m by rw[<-WV.out,Ge.o]);have xj:=ae (xZ.o.trans wS);have HFO3:=ae (UI.o.ext wS);have HCO3:=ae (hco.mono (base':=w.heap.size+2) Dc);have D3:=xj.o.size;rw[yI.o]at D3;have HR0:=ae (l8.made w3 (w.heap.size+2) D3);clear hco WV wS;go_wp2_with fail
      go_loopg [12,76] m (fun gk cc ii wr=>∃(k:Nat) (a1:j8) (n1 p1:Nat),b7 (gk+k=m)/\ii=.int .i64 (k:Int)/\cc=.slice a1 n1 p1/\b7 (l8 wr (w.heap.size+2) (.slice a1 n1 p1) ((bu V ((bd L (u+1-2)).take k)).map fun c=>c.2.2.2))/\b7 (o8 wr (w.heap.size+2) (.slice af m cf) (bd L (u+1-2)))/\b7 (o8 wr (w.heap.size+2) (.slice acl ncl ccl) (bd L (u+1-2)))/\b7 (Ext W wr))
      case atStart=>exact⟨0,_,_,_,ae b9,rfl,rfl,HR0,ae (HFO3.o.ext (Ext.alloc _ _)),ae (HCO3.o.ext (Ext.alloc _ _)),ae (xj.o.trans (Ext.alloc _ _))⟩
      case round =>
       obtain⟨g2,xK⟩:=b8 gk;subst xK;obtain⟨wr2,wT⟩:=b8 wr;subst wT;obtain⟨j,a1,n1,p1,HJ,rfl,rfl,Fs,Sb,N6,Vs⟩:=hrel;have Ws:=Vs.o.size;rw[yI.o]at Ws;have hcB:=Vs.o.k6 Kl.o;by_cases DE:j<m
       ·obtain⟨b,off,he,U3⟩:=Sb.o.ints.at DE;subst he;obtain⟨s,hs⟩:=b8 ((bd L (u+1-2))[j]?.getD 0);rw[<-hs]at U3;have zt:j<(bd L (u+1-2)).length:=by rw[Ge.o];exact DE
        have hsm:=Ks.o s (by rw[hs,List.getElem?_eq_getElem zt];exact List.getElem_mem zt);obtain⟨t,rfl⟩:∃t:Nat,s=t:=⟨s.toNat,by omega⟩;have S2:t<u+1:=by omega
        obtain⟨vb,O,GY,DB⟩:=((Dw.o.ext Vs.o).at S2);subst GY;have F0:=dM Ha.o t;obtain⟨y,hy⟩:=b8 (V[t]?.getD 0);rw[<-hy]at DB F0
        have AU:=ae (show((bu V ((bd L (u+1-2)).take j)).map fun c=>c.2.2.2)++[(-y,1)]=(bu V ((bd L (u+1-2)).take (j+1))).map fun c=>c.2.2.2 by
         rw[<-li V zt,<-hs,hy];simp)
        have GX:IntKind.i64.wrap (-y)=-y:=by rw[IntKind.wrap_i64];omega
        have Ji:=ae (show((bu V ((bd L (u+1-2)).take j)).map fun c=>c.2.2.2).length<=1000 by rw[List.length_map,ch,List.length_take];have:=C5.o;omega);clear hs hsm hy zt
        go_wp2_with (first
         | (go_at_call 18;refine(cG _ _).mono ?_;rintro e w4 ⟨rfl,xG⟩;have J4:=xG.size;have E8:=ae (Fs.o.ext xG);have HF4:=ae (Sb.o.ext xG);have HC4:=ae (N6.o.ext xG);have Ai:=ae (Vs.o.trans xG);clear xG)
         | (at_builtin;refine aG rfl _ _ rfl (w.heap.size+2) (.slice a1 n1 p1) _ rfl (E8.o.ext (Ext.alloc _ _)) _ 1 _ [(-y,1)] rfl (r8.one' _ _ _ _ _ e7) (j4 Ji.o) (by simp;omega) ?_;intro v5 w5 ho hg l7;have HF5:=ae (HF4.o.LQ (Ext.alloc _ _) E8.o hg);have UN:=ae (HC4.o.LQ (Ext.alloc _ _) E8.o hg);have X5:=ae ((Ai.o.trans (Ext.alloc _ _)).grown hg (fun j hj=>by rw[yI.o];exact(E8.o.lt j hj).1));obtain⟨a5,n5,p5,rfl,A9⟩:=ho.var;have xL:=ae ho;clear ho hg l7))
        go_roundg (g2-1)
        case measure=>have:=HJ.o;omega
        case rel=>exact⟨j+1,a5,n5,p5,ae (j4 HJ.o),by go_num,rfl,ae (by rw[<-AU.o];exact xL.o),HF5,UN,X5⟩
       ·have D9:m=j:=by have:=HJ.o;omega
        subst D9;have HFT:=ae (show(bd L (u+1-2)).take m=bd L (u+1-2)from List.take_of_length_le (by rw[Ge.o];exact Nat.le_refl _));rw[HFT.o]at Fs;have JZ:=ae (tL (HF.o.ext Vs.o) b9);clear Sb hcB;go_wp2_with fail;refine JZ.o.mono ?_;rintro e w4 ⟨vE,rfl,hE,xG⟩;obtain⟨aE0,nE0,cE0,rfl,hnE⟩:=hE.var;have HNE0:=ae (show nE0=k by rw[<-hnE.out,EJ.o]);have Ai:=ae (Vs.o.trans xG);have E8:=ae (Fs.o.ext xG);have HC4:=ae (N6.o.ext xG);have HE4:=ae (hE.mono (base':=w.heap.size+2) Ws);have Ww:=Ai.o.size;rw[yI.o]at Ww;clear hE hnE xG JZ
        go_wp2_with (first
         | (go_at_call 18;refine(cG _ _).mono ?_;rintro e w5 ⟨rfl,zh⟩;have A8:=zh.size;have UL:=ae (HE4.o.ext zh);have Gc:=ae (E8.o.ext zh);have UN:=ae (HC4.o.ext zh);have Br:=ae (Ai.o.trans zh);clear zh)
         | (at_builtin;refine pU Ae Tryz.DR rfl Tryz.underlying31 (by decide) rfl _ _ rfl (w.heap.size+2) (.slice aE0 nE0 cE0) L rfl (UL.o.ext (Ext.alloc _ _)) _ 1 1 [((u:Int),0,1)] rfl (F8.lit Ae _ _ _ 1 j0 _ j0 _ j0 b9) (by rw[EJ.o];omega) (by simp;omega) ?_;intro v6 w6 ho hg l7;have Et:=ae (show l8 w6 _ _ _ from bW (Gc.o.ext (Ext.alloc _ _)) (UL.o.ext (Ext.alloc _ _)) (by decide) hg);have Sg:=ae (show o8 w6 _ _ _ from bW (UN.o.ext (Ext.alloc _ _)) (UL.o.ext (Ext.alloc _ _)) (by decide) hg);have X6:=ae ((Br.o.trans (Ext.alloc _ _)).grown hg (fun j hj=>by rw[yI.o];exact(UL.o.lt j hj).1));obtain⟨aE,nE,cE,rfl,Fu⟩:=ho.var;have HE6:=ae ho;clear ho hg l7))
        obtain⟨R,Z0⟩:=b8 (zJ (u+1) L);have HEL:=ae (show L++[((u:Int),0,1)]=R by rw[Z0];unfold zJ;rw[D7])
        have HEM:=ae (show∀f∈R,1<=f.1/\f.1<=(u:Int)by
         intro f hf;rw[<-HEL.o]at hf
         rcases List.mem_append.1 hf with h|h
         ·have:=y4.o f h;omega
         ·rw[List.mem_singleton]at h;subst h;simp only;omega)
        have Vz:=ae (show R.length=k+1 by rw[<-HEL.o,List.length_append,EJ.o];rfl);have YU:=ae (show nE=k+1 by rw[<-Fu.o,HEL.o,Vz.o]);rw[HEL.o]at HE6;have zW:=ae (me Jk.o yD.o b9 Ha.o);rw[<-Z0]at zW;have DP:=ae (gD yD.o b9 Ha.o L);rw[<-Z0]at DP;have hecap:=HE6.o.KR.o3;have hemax:=HE6.o.KR.l9;have HFV:=ae (show(bu V (bd L (u+1-2))).length<=1000 by rw[ch];have:=C5.o;omega);obtain⟨FC,ZZ⟩:=b8 (bu V (bd L (u+1-2)));have HFC1:=ae (show bd L (u+1-2)=FC.map (·.1)by rw[ZZ];simp[bu,Function.comp_def]);rw[HFC1.o]at Sg;rw[<-ZZ]at Et DP HFV;have UJ:=ae ZZ;clear Z0 ZZ D7;go_wp2_with fail
        go_loopg [11,12,99] (k+1) (fun gk cc rr ii wr=>∃(i:Nat) (aC:j8) (nC cC:Nat) (aR:j8) (nR cR:Nat),b7 (gk+i=k+1)/\ii=.int .i64 (i:Int)/\cc=.slice aC nC cC/\rr=.slice aR nR cR/\b7 (o8 wr (w.heap.size+2) (.slice aC nC cC) ((FC++aN V (R.take i)).map (·.1)))/\b7 (l8 wr (w.heap.size+2) (.slice aR nR cR) ((FC++aN V (R.take i)).map fun c=>c.2.2.2))/\b7 (xm Ae 62 wr (w.heap.size+2) (.slice aE nE cE) R)/\b7 ((R.take i).all (EV V)=true)/\b7 (Ext W wr))
        case atStart=>exact⟨0,_,_,_,_,_,_,ae b9,rfl,rfl,rfl,ae (by simpa[aN]using Sg.o),ae (by simpa[aN]using Et.o),HE6,ae rfl,X6⟩
        case round =>
         obtain⟨g3,Dg⟩:=b8 gk;subst Dg;obtain⟨K,A0⟩:=b8 wr;subst A0;obtain⟨i,aC,nC,cC,aR,nR,cR,HI,rfl,rfl,rfl,DN,OL,HOE,R5,xj⟩:=hrel;have Mf:=xj.o.size;rw[yI.o]at Mf;by_cases DU:i<k+1
         ·have hine:i<nE:=by rw[YU.o];exact DU
          obtain⟨eb,xi,⟨c,x,y⟩,B2,hex,Rx⟩:=HOE.o.KR.at hine;subst B2;have e0:K.cell? ⟨eb,xi+i*3,none⟩=some (.int .i64 c):=Rx 0 _ rfl;have e1:K.cell? ⟨eb,xi+i*3+1,none⟩=some (.int .i64 x):=Rx 1 _ rfl;have e2:K.cell? ⟨eb,xi+i*3+2,none⟩=some (.int .i64 y):=Rx 2 _ rfl;have Eb:=HEM.o (c,x,y) (List.mem_of_getElem? hex);simp only at Eb;obtain⟨t,rfl⟩:∃t:Nat,c=t:=⟨c.toNat,by omega⟩;have S2:t<u+1:=by omega
          obtain⟨vb,O,GY,DB⟩:=Dw.o.at S2;subst GY;obtain⟨z,hz⟩:=b8 (V[t]?.getD 0);rw[<-hz]at DB;obtain⟨p,q',ok,xk⟩:∃p q ok,xy (x,y) (z,1)=((p,q),ok):=⟨_,_,_,rfl⟩;have yt:=ae xk;have Uu:=ae (show -1000000000<=p/\p<=1000000000 by have:=rD (x,y) (z,1);rw[xk]at this;exact this);have Ze:=ae (show EV V ((t:Int),x,y)=ok by unfold EV;simp only;rw[Int.toNat_natCast,<-hz,xk])
          have HTW:=ae (show aN V (R.take i)++y6 (t:Int) (p,q')=aN V (R.take (i+1))by
           rw[il hex];unfold aN;rw[List.flatMap_append];simp only[List.flatMap_cons,List.flatMap_nil,List.append_nil];unfold cD;simp only;rw[Int.toNat_natCast,<-hz,xk])
          have HXI:=ae hex;clear Rx hex hz xk;go_upto_region 25 with fail;obtain⟨U,Ma⟩:=b8 (K.alloc (.cells #[.int .i64 (t:Int),.int .i64 x,.int .i64 y] 62));have Kk:=ae (show Ext K U by rw[Ma];exact Ext.alloc _ _);have f0:U.cell? ⟨K.heap.size,0,none⟩=some (.int .i64 (t:Int)):=by rw[Ma];simp
          have f1:U.cell? ⟨K.heap.size,1,none⟩=some (.int .i64 x):=by rw[Ma];simp
          have f2:U.cell? ⟨K.heap.size,2,none⟩=some (.int .i64 y):=by rw[Ma];simp
          have BO:U.cell? ⟨w.heap.size,1,none⟩=some (.slice (some ⟨vb,O,none⟩) (u+1) cap):=(xj.o.trans Kk.o).k6 Kl.o;have Gr:U.cell? ⟨vb,O+t,none⟩=some (.int .i64 z):=(xj.o.trans Kk.o).k6 DB;rw[<-Ma];have hti:(t:Int)<(u:Int)+1:=by omega
          clear Ma e0 e1 e2 DB;go_upto_region 25 with fail
          go_cut [17,18] (fun sx so wx=>∃g:Nat,sx=.pointer (some ⟨g,0,none⟩)/\so=.bool ok/\b7 (aj U wx g p q'))
          case first =>
           have k7:Ext U U.drew:=Ext.drew U;have xI:Ext U (U.alloc (.cells #[.int .i64 0,.int .i64 0] 46)).drew:=(Ext.alloc _ _).trans (Ext.drew _);have k8:=ae (fun(w':World) (h:Ext U w')=>(⟨h.k6 f0,h.k6 f1,h.k6 f2,h.k6 BO,h.k6 Gr,h⟩:w'.cell? ⟨K.heap.size,0,none⟩=some (.int .i64 (t:Int))/\w'.cell? ⟨K.heap.size,1,none⟩=some (.int .i64 x)/\w'.cell? ⟨K.heap.size,2,none⟩=some (.int .i64 y)/\w'.cell? ⟨w.heap.size,1,none⟩=some (.slice (some ⟨vb,O,none⟩) (u+1) cap)/\w'.cell? ⟨vb,O+t,none⟩=some (.int .i64 z)/\Ext U w'))
           go_region_held3 (fun w'=>w'.cell? ⟨K.heap.size,0,none⟩=some (.int .i64 (t:Int))/\w'.cell? ⟨K.heap.size,1,none⟩=some (.int .i64 x)/\w'.cell? ⟨K.heap.size,2,none⟩=some (.int .i64 y)/\w'.cell? ⟨w.heap.size,1,none⟩=some (.slice (some ⟨vb,O,none⟩) (u+1) cap)/\w'.cell? ⟨vb,O+t,none⟩=some (.int .i64 z)/\Ext U w')
            (first
              | with_reducible exact k8.o _ k7
              | with_reducible exact k8.o _ xI
              | with_reducible exact k8.o _ ((k7.setCell (by first|(simp;done)|(simp;omega)) _).setCell (by first|(simp;done)|(simp;omega)) _)
              | with_reducible exact k8.o _ (k7.trans (Ext.alloc _ _))
              | with_reducible exact k8.o _ (r9.put _ _).ext)
            (first
              | (go_at_call 18
                 (with_reducible refine(cG _ _).mono ?_)
                 rintro e w7 ⟨rfl,yV⟩
                 first|(with_reducible have r9:=aj.grow r9 yV)|(with_reducible have r9:=aj.xu yV)|(with_reducible have r9:=aj.xA k7 yV)|skip
                 first|(have BQ:=r9.c0;have BP:=r9.c1;have C3:=r9.free)|skip
                 have k7:Ext U w7:=by first|with_reducible exact k7.trans yV|with_reducible exact xI.trans yV|with_reducible exact(k7.trans (Ext.alloc _ _)).trans yV
                 have zr:=k7.size)
              | (go_at_call 58
                 (with_reducible refine(jB _ _ _ _ _).mono ?_)
                 rw[yt.o];rintro e w8 ⟨rfl,zl⟩
                 first|(with_reducible have r9:=aj.grow r9 zl)|(with_reducible have r9:=aj.xu zl)|(with_reducible have r9:=aj.xA k7 zl)|skip
                 first|(have BQ:=r9.c0;have BP:=r9.c1;have C3:=r9.free)|skip
                 have k7:Ext U w8:=by first|with_reducible exact k7.trans zl|with_reducible exact xI.trans zl|with_reducible exact(k7.trans (Ext.alloc _ _)).trans zl
                 have zr:=k7.size)
              | fail)
           all_goals(go_wp2_with fail;go_meet;first|exact⟨_,rfl,rfl,ae (r9.put _ _)⟩|exact⟨_,rfl,rfl,ae (aj.new k7 _ _)⟩|exact⟨_,rfl,rfl,ae (aj.new' k7 _ _ e7)⟩)
          obtain⟨g,rfl,rfl,HB⟩:=hcut;have XC:=ae ((xj.o.trans Kk.o).trans HB.o.ext);have NU:=ae ((DN.o.ext Kk.o).ext HB.o.ext);have HORc:=ae ((OL.o.ext Kk.o).ext HB.o.ext);have HOEc:=ae ((HOE.o.ext Kk.o).ext HB.o.ext);have Ka:=HB.o.ext.k6 f0;have EO:=XC.o.size;rw[yI.o]at EO;have HGE:=ae (show K.heap.size<g by have:=HB.o.ge;have:=World.block_lt_of_cell? _ _ f0;simp only at this;omega);clear f0 f1 f2 BO Gr hti;cases ok
          ·have HG:=ae (show xH (q:Int) V L=false from by
            rw[zW.o,List.all_eq_false];exact⟨_,List.mem_of_getElem? HXI.o,by rw[Ze.o];simp⟩)
           have D5:=xU.o _ XC.o;have yN:=xE.A3 D5;have yC:=xE.A2 D5;have AX:=xE.BI D5;have CZ:=xE.B4 D5;clear D5;go_wp2_with fail;refine bodyPost_ret (v:=.tuple #[.agg #[.slice none 0 0,.slice none 0 0,.slice none 0 0],.bool false]) (by simp[results,Tryz.results21,go_sem,yN,yC,AX]) rfl (B5.o _ XC.o HG.o _ rfl)
          ·have OC:=ae (show(R.take (i+1)).all (EV V)=true by rw[il HXI.o,List.all_append,R5.o];simp[Ze.o]);have z8:=ae (show((FC++aN V (R.take i)).map (·.1)).length<=3000000 by rw[List.length_map,List.length_append,eR,List.length_take];have:=HFV.o;have:=Vz.o;omega);have zy:=ae (show((FC++aN V (R.take i)).map fun c=>c.2.2.2).length<=3000000 by rw[List.length_map,List.length_append,eR,List.length_take];have:=HFV.o;have:=Vz.o;omega);have OF:=ae (show(FC++aN V (R.take i)).map (·.1)++[(t:Int),(t:Int)]=(FC++aN V (R.take (i+1))).map (·.1)by rw[<-HTW.o];exact qQ _ FC _ (y6 (t:Int) (p,q')));have HSR:=ae (show((FC++aN V (R.take i)).map fun c=>c.2.2.2)++[(p,q'),(-p,q')]=(FC++aN V (R.take (i+1))).map fun c=>c.2.2.2 by rw[<-HTW.o];exact qQ _ FC _ (y6 (t:Int) (p,q')));have Jm:=ae (HB.o.cell)
           go_wp2_with (first
            | (at_builtin;go_loud (refine bm rfl _ _ rfl (w.heap.size+2) (.slice aC nC cC) _ rfl (NU.o.ext (Ext.alloc _ _)) _ 2 _ [(t:Int),(t:Int)] rfl (Ints.SJ [(t:Int),(t:Int)] _ j0 j0 j0 e7) (Nat.le_trans (Nat.add_le_add_right z8.o 2) (by decide)) (by simp;omega) ?_;intro v9 w9 ho hg l7;have R1:=ae (HORc.o.VZ (Ext.alloc _ _) NU.o hg);have QR:=ae (show xm Ae 62 w9 _ _ _ from HOEc.o.M0 (Ext.alloc _ _) NU.o (by decide) hg);have X9:=ae ((XC.o.trans (Ext.alloc _ _)).grown hg (fun j hj=>by rw[yI.o];exact(NU.o.lt j hj).1));have Jn:=ae (show w9.heap[g]?=_ from(hg.block g (by have:=HB.o.lt;simp;omega) (av NU.o Jm.o (by decide))).trans ((bX _ _ _ HB.o.lt).trans Jm.o));obtain⟨a9,n9,p9,rfl,Kr⟩:=ho.var;have HC9:=ae ho;clear ho hg l7)))
           have AR:w9.cell? ⟨g,0,none⟩=some (.int .i64 p):=(ah Jn.o).1;have zN:w9.cell? ⟨g,1,none⟩=some (.int .i64 q'):=(ah Jn.o).2.1;have Rm:=Uu.o;have YV:=ae (show some g≠(Value.slice aR nR cR).ownBlock from fun e=>by have:=(OL.o.lt g e.symm).2;have:=HGE.o;omega);have BH:Ext W w9:=X9.o;have k7:Ext w9 w9.drew:=Ext.drew w9;have hsz9:=X9.o.size;rw[yI.o]at hsz9;have k8:=ae (fun(w':World) (h:Ext W w') (h0:w'.cell? ⟨g,0,none⟩=some (.int .i64 p)) (h1:w'.cell? ⟨g,1,none⟩=some (.int .i64 q'))=>(⟨h0,h1,h⟩:w'.cell? ⟨g,0,none⟩=some (.int .i64 p)/\w'.cell? ⟨g,1,none⟩=some (.int .i64 q')/\Ext W w'));clear Ka
           go_region_held3 (fun w'=>w'.cell? ⟨g,0,none⟩=some (.int .i64 p)/\w'.cell? ⟨g,1,none⟩=some (.int .i64 q')/\Ext W w')
            (first
              | with_reducible exact k8.o _ (BH.trans k7) (k7.k6 AR) (k7.k6 zN)
              | with_reducible exact k8.o _ (BH.trans (k7.trans (Ext.alloc _ _))) ((k7.trans (Ext.alloc _ _)).k6 AR) ((k7.trans (Ext.alloc _ _)).k6 zN)
              | with_reducible exact k8.o _ EG XL ZT)
            (first
              | (go_at_call 25
                 (with_reducible refine(eM _ _ _ b9 b9).mono ?_)
                 rintro e IH ⟨rfl,SX⟩;have k7:Ext w9 IH:=k7.trans SX
                 have WD:=k7.size)
              | (refine ci _ j0 ?_
                 refine ek _ _ j0 (w.heap.size+2) (.slice aR nR cR) _ j0 (R1.o.ext (k7.trans (Ext.alloc _ _))) _ 2 2 [(p,q'),(-p,q')] j0 (r8.two _ _ _ _ _ _ j0) (Nat.le_trans (Nat.add_le_add_right zy.o 2) (by decide)) (by simp;omega) ?_;intro v11 Hi ho hg l7;have XL:=hg.cell ((k7.trans (Ext.alloc _ _)).k6 AR) YV.o;have ZT:=hg.cell ((k7.trans (Ext.alloc _ _)).k6 zN) YV.o;have HC11:=ae (HC9.o.LQ (k7.trans (Ext.alloc _ _)) R1.o hg);have HE11:=ae (QR.o.MZ (k7.trans (Ext.alloc _ _)) R1.o (by decide) hg);have EG:Ext W Hi:=(BH.trans (k7.trans (Ext.alloc _ _))).grown hg (fun j hj=>by rw[yI.o];exact(R1.o.lt j hj).1);obtain⟨a11,n11,p11,rfl,UB⟩:=ho.var;have HR11:=ae ho
                 clear ho hg l7)
              | fail)
           have X11:=ae EG;clear BH EG XL ZT;go_wp2_with fail
           go_roundg (g3-1)
           case measure=>have:=HI.o;omega
           case rel=>exact⟨i+1,a9,n9,p9,a11,n11,p11,ae (j4 HI.o),by go_num,rfl,rfl,ae (by rw[<-OF.o];exact HC11.o),ae (by rw[<-HSR.o];exact HR11.o),HE11,OC,X11⟩
         ·have hik':i=k+1:=by have:=HI.o;omega
          subst hik';have HTE:=ae (show R.take (k+1)=R from List.take_of_length_le (by rw[Vz.o];exact Nat.le_refl _));rw[HTE.o]at DN OL R5;have Is:=ae (show xH (q:Int) V L=true by rw[zW.o,R5.o]);obtain⟨J,Vl⟩:=b8 ((FC++aN V R).map (·.1));have Iz:=ae (show((FC++aN V R).map fun c=>c.2.2.2)=Bs V L by rw[DP.o];rfl);have JY:=ae (show J.length=m+2*(k+1)by rw[Vl,List.length_map,List.length_append,eR,Vz.o,UJ.o,ch,Ge.o])
          have NO:=ae (show zX m J.length q (zM q J)=(List.range q).map (AH (bZ V L) q)by
           have:=Pk V (bd L (u+1-2)) R q;rw[Ge.o,<-UJ.o,<-Vl,DP.o]at this
           exact this)
          have Y5:=ae (show List.replicate m 1++List.replicate (2*(k+1)) 0=AH (bZ V L) q q by
           have:=qH V (bd L (u+1-2)) R q;rw[Ge.o,<-UJ.o,DP.o,Vz.o]at this
           exact this)
          have HCB:=ae (show∀r:Nat,J[r]?.getD 0<=9223372036854775807 by
           intro r;by_cases hr:r<J.length
           ·rw[List.getElem?_eq_getElem hr];have hm:=List.getElem_mem hr;simp only[Vl]at hm;obtain⟨c,hc,hce⟩:=List.mem_map.1 hm;have AZ:=qd yD.o b9 (fun f hf=>by have:=y4.o f hf;omega) c (by rw[<-DP.o];exact hc);simp only[Option.getD_some];have e:J[r]=c.1:=by simp only[Vl];exact hce.symm
            rw[e];omega
           ·rw[List.getElem?_eq_none b9];simp)
          rw[<-Vl]at DN;rw[Iz.o]at OL;have Gd:=ae (show nC=m+2*(k+1)by obtain⟨_,_,he,_⟩:=DN.o.form;simp only[Value.slice.injEq]at he;rw[he.2.1,JY.o]);have Fb:=ae (oR (w:=K) q h5 DN.o.ints HCB.o (by rw[Gd.o];omega));have hcA:=xj.o.k6 Jd.o;have hnlt:¬((k:Int)+1<(nE:Int)):=by have:=YU.o;omega
          clear Vl;go_wp2_with fail;refine Fb.o.mono ?_;rintro e IG ⟨⟨vA,rfl,vs,Ms,Gt⟩,Bi⟩;obtain⟨aA,I,cA,rfl,hna⟩:=Ms.var;have hnq:I=q:=by rw[<-hna.out,Gt.len,lR]
          subst hnq;have JS:=ae (show A4 IG (w.heap.size+2) aA I cA vs (zM I J)from⟨Ms.mono' Mf,⟨Gt.len,fun i hi=>(Gt.row i hi).mono Mf,Gt.apart⟩⟩);have FP:=ae (OL.o.ext Bi);have T9:=ae (xj.o.trans Bi);have hacap:=JS.o.cap.1;have hamax:=JS.o.cap.2;clear Ms Gt hna Bi hcA Fb;go_wp2_with fail
          go_loopg [139] I (fun gk ii wr=>∃i:Nat,b7 (gk+i=I)/\ii=.int .i64 (i:Int)/\b7 (A4 wr (w.heap.size+2) aA I cA vs (zX m J.length i (zM I J)))/\b7 (l8 wr (w.heap.size+2) (.slice aR nR cR) (Bs V L))/\b7 (Ext W wr))
          case atStart=>exact⟨0,ae b9,rfl,ae (by rw[vH];exact JS.o),FP,T9⟩
          case round =>
           obtain⟨g4,MV⟩:=b8 gk;subst MV;obtain⟨wr4,GI⟩:=b8 wr;subst GI;obtain⟨i,HI4,rfl,CB,YE,Ug⟩:=hrel;have Rh:=Ug.o.size;rw[yI.o]at Rh;by_cases xR:i<I
           ·obtain⟨G,rfl,_,JG,_⟩:=CB.o.outer b9;have Bb:i<(zM I J).length:=by rw[lR];exact xR
            have Cg:((zX m J.length i (zM I J))[i]?.getD []).length=m+2*(k+1):=by rw[tc Bb,lS xR,di,JY.o]
            obtain⟨gr,cr,Wl,hcr,PO,hne,Du,hgrl,hncr,hcrm⟩:=CB.o.row xR Cg b9;have Yr:=ae Wl;clear Wl PO Cg;go_wp2_with fail
            go_loopg [22] (m+2*(k+1)) (fun gk jj wr=>∃t:Nat,b7 (gk+t=m+2*(k+1))/\jj=.int .i64 ((m+1+2*t:Nat):Int)/\b7 (A4 wr (w.heap.size+2) (some ⟨G,0,none⟩) I cA vs ((zX m J.length i (zM I J)).set i (cY m (m+1+2*t) (wW J i))))/\b7 (l8 wr (w.heap.size+2) (.slice aR nR cR) (Bs V L))/\b7 (Ext W wr))
            case atStart=>exact⟨0,ae b9,by simp,ae (by
             rw[sh];have e:(zX m J.length i (zM I J)).set i (wW J i)=zX m J.length i (zM I J):=by
              have h0:=tc (m:=m) (N:=J.length) Bb;rw[lS xR]at h0
              apply List.ext_getElem e7
              intro r h1 h2;rw[List.getElem_set]
              split
              ·next er=>subst er;rw[List.getElem?_eq_getElem h2]at h0;simpa using h0.symm
              ·rfl
             rw[e];exact CB.o),YE,Ug⟩
            case round =>
             obtain⟨g5,TA⟩:=b8 gk;subst TA;obtain⟨Q1,MU⟩:=b8 wr;subst MU;obtain⟨t,OD,rfl,Cp,Us,JK⟩:=hrel;have Wv:=JK.o.size;rw[yI.o]at Wv;by_cases zt:m+1+2*t<m+2*(k+1)
             ·obtain⟨j,hj⟩:=b8 (m+1+2*t);have IT:((zX m J.length i (zM I J)).set i (cY m (m+1+2*t) (wW J i)))[i]?.getD []=cY m (m+1+2*t) (wW J i):=by
               rw[List.getElem?_set_self (by rw[LH];exact Bb)];rfl
              obtain⟨gr',cr',Wk,hcr',WO,PR,hbr',Xq,WU,Xy⟩:=Cp.o.row (n:=m+2*(k+1)) xR (by rw[IT,vJ,di,JY.o]) b9;have yh:=Yr.o.symm.trans Wk;simp only[Value.slice.injEq,Option.some.injEq,Addr.mk.injEq,and_true,true_and]at yh;have Mu:=WO;rw[<-yh.1,<-yh.2,IT]at Mu;have Z:=Mu.AW.2.2.2 (m+1+2*t) zt;have Cw:=Mu.AW.2.2.1 (m+1+2*t);rw[LF (by rw[di,JY.o];exact zt),if_neg b9]at Z;obtain⟨x,hx⟩:=b8 ((wW J i)[m+1+2*t]?.getD 0);have PD:=Po J i (m+1+2*t);rw[<-hx]at Z PD;have hwx:IntKind.i64.wrap (-x)=-x:=by rw[IntKind.wrap_i64];omega
              have IC:=ae (show A4 (Q1.setCell ⟨gr,m+1+2*t,none⟩ (.int .i64 (-x))) (w.heap.size+2) (some ⟨G,0,none⟩) I cA vs ((zX m J.length i (zM I J)).set i (cY m (m+1+2*(t+1)) (wW J i)))by
               have:=Cp.o.DZ xR Yr.o (m+1+2*t) (-x);rw[IT,hx,um (by rw[di,JY.o];exact zt),List.set_set]at this
               rw[hx];exact this)
              have YD:=ae (show l8 (Q1.setCell ⟨gr,m+1+2*t,none⟩ (.int .i64 (-x))) (w.heap.size+2) (.slice aR nR cR) (Bs V L)from
               Us.o.keep fun b hb=>heap_setCell_other _ _ _ _ fun e=>aY (by decide) Us.o Mu b hb (by rw[e];rfl))
              have Yp:=ae (JK.o.store (b:=gr) (m+1+2*t) (by rw[yI.o];exact Du) (.int .i64 (-x)));clear WO Mu IT Wk hcr' PR hbr' Xq WU Xy yh hx;rw[<-hj]at Z Cw IC YD Yp zt;have HJ6:=ae hj;rw[<-hj];clear hj;go_wp2_with fail
              go_roundg (g5-1)
              case measure=>have:=OD.o;have:=HJ6.o;omega
              case rel=>exact⟨t+1,ae (by have:=OD.o;have:=HJ6.o;omega),by have:=HJ6.o;go_num,IC,YD,Yp⟩
             ·have hnlt2:¬(((m+1+2*t:Nat):Int)<((m+2*(k+1):Nat):Int)):=by omega
              have NY:=ae (show A4 Q1 (w.heap.size+2) (some ⟨G,0,none⟩) I cA vs (zX m J.length (i+1) (zM I J))by
               have h1:=vG (m:=m) (N:=J.length) Bb;rw[lS xR]at h1;rw[<-h1];have h2:=vI (m:=m) (j:=m+1+2*t) (r:=wW J i) (by rw[di,JY.o];omega);rw[di]at h2
               rw[<-h2];exact Cp.o)
              obtain⟨j,hj⟩:=b8 (m+1+2*t);obtain⟨N,hN⟩:=b8 (m+2*(k+1));go_wp2_with fail
              go_roundg (g4-1)
              case measure=>have:=HI4.o;omega
              case rel=>exact⟨i+1,ae (j4 HI4.o),by go_num,NY,Us,JK⟩
           ·have hin':I=i:=by have:=HI4.o;omega
            subst hin';rw[NO.o]at CB;have UE:=ae (ow Is.o);obtain⟨d,hd⟩:=b8 (2*(k+1));have WW:(nC:Int)-(m:Int)=(d:Int):=by have:=Gd.o;omega
            have HD:=ae hd;have HT1:=ae (kL (w:=wr4) m 1 b9);have Bu:=ae (fun(Jo:World)=>kL (w:=Jo) d 0 b9);have hnc0:(0:Int)<=(nC:Int)-(m:Int):=by omega
            clear hd;go_wp2_with fail;refine HT1.o.mono ?_;rintro e Jo ⟨⟨v13,rfl,Td⟩,L8⟩;obtain⟨Ow,n13,c13,rfl,W3⟩:=Td.var;have Bd:=ae Td;have Yq:=ae L8;have JR:=ae W3.out;clear Td L8 W3 HT1;go_wp2_with fail;rw[show wrap64 (d:Int)=(d:Int)by unfold wrap64;have:=HD.o;omega];refine(Bu.o Jo).mono ?_;rintro e w14 ⟨⟨v14,rfl,Tc⟩,Wj⟩;obtain⟨a14,n14,c14,rfl,WY⟩:=Tc.var;have HO14:=ae Tc;have Ui:=ae Wj;have HN14:=ae WY.out;have HLEN:=ae (show(List.replicate m (1:Int)).length+n14<=1099511627776 by rw[<-HN14.o,List.length_replicate,List.length_replicate];have:=HD.o;omega);have hs13:=Yq.o.size;have hs14:=Ui.o.size;clear Tc Wj WY Bu
            go_wp2_with (first
             | (at_builtin;go_loud (refine bm rfl _ _ rfl wr4.heap.size (.slice Ow n13 c13) _ rfl (Bd.o.ext Ui.o) _ n14 _ _ rfl HO14.o.ints HLEN.o b9 ?_;intro v15 Bz ho hg l7;have L7:=((Yq.o.trans Ui.o).grown hg (fun j hj=>(Bd.o.lt j hj).1));obtain⟨T6,n15,c15,rfl,YX⟩:=ho.var;have Dl:=ae ho;have Uh:=ae L7;clear ho hg l7 L7)))
            obtain⟨lr,Cv⟩:=b8 (List.replicate m (1:Int)++List.replicate d 0);have HLR0:=ae (show lr=AH (bZ V L) I I by rw[Cv,HD.o];exact Y5.o);rw[<-Cv]at Dl;have Qg:Ext W Bz:=Ug.o.trans Uh.o;have hS:JI W Bz (w.heap.size+2) Bz.heap.size (.slice aA I cA) vs (vs++[.slice T6 n15 c15]) ((List.range I).map (AH (bZ V L) I)++[lr]) (.slice aR nR cR) (Bs V L) :=
             JI.start CB.o Uh.o Dl.o Rh (YE.o.ext Uh.o) Qg
            have Wx:=Qg.size;rw[yI.o]at Wx;have Ul:=ae (show vs.length<=1099511627775 by rw[CB.o.Aj];omega);have NK:=ae (fun(w16:World)=>kL (w:=w16) I 0 b9);have k8:=ae (fun(w':World) (h:Ext W w')=>(h.k6 Jd.o:w'.cell? ⟨w.heap.size,0,none⟩=some (.int .i64 (I:Int))))
            have HKST:=ae (fun(w':World) (h:Ext W w') (a b c:Value)=>(show(((w'.setCell ⟨w.heap.size+1,0,none⟩ a).setCell ⟨w.heap.size+1,1,none⟩ b).setCell ⟨w.heap.size+1,2,none⟩ c).cell? ⟨w.heap.size,0,none⟩=some (.int .i64 (I:Int))from
             (World.cell?_of_block (a:=⟨w.heap.size,0,none⟩) (by
               show(((w'.setCell ⟨w.heap.size+1,0,none⟩ a).setCell ⟨w.heap.size+1,1,none⟩ b).setCell ⟨w.heap.size+1,2,none⟩ c).heap[w.heap.size]?=w'.heap[w.heap.size]?
               rw[heap_setCell_other _ _ _ _ e7,heap_setCell_other _ _ _ _ e7,heap_setCell_other _ _ _ _ e7])).trans (k8.o w' h)))
            have JP:=ae (fun(n:Nat) (hn:Bz.heap.size<=n)=>(show some n≠(Value.slice aA I cA).ownBlock from fun e=>by have:=(hS.out.lt n e.symm).2;omega));have zV:=ae (show W.heap.size<=w.heap.size+2 by rw[yI.o];exact Nat.le_refl _);have RX:=ae (show W.heap.size<=Bz.heap.size from Qg.size);have e0:Ext Bz Bz.drew:=Ext.drew _;have e1:Ext Bz (Bz.alloc (.cells #[.slice T6 n15 c15] 24)).drew:=(Ext.alloc _ _).trans (Ext.drew _);have e2:Ext Bz (Bz.alloc (.cells #[.int .i64 1] 3)).drew:=(Ext.alloc _ _).trans (Ext.drew _);have e12:Ext Bz ((Bz.alloc (.cells #[.slice T6 n15 c15] 24)).alloc (.cells #[.int .i64 1] 3)).drew:=((Ext.alloc _ _).trans (Ext.alloc _ _)).trans (Ext.drew _);have e21:Ext Bz ((Bz.alloc (.cells #[.int .i64 1] 3)).alloc (.cells #[.slice T6 n15 c15] 24)).drew:=((Ext.alloc _ _).trans (Ext.alloc _ _)).trans (Ext.drew _);have b12:((Bz.alloc (.cells #[.slice T6 n15 c15] 24)).alloc (.cells #[.int .i64 1] 3)).drew.cell? ⟨Bz.heap.size+1,0,none⟩=some (.int .i64 1):=by simp
            have b21:((Bz.alloc (.cells #[.int .i64 1] 3)).alloc (.cells #[.slice T6 n15 c15] 24)).drew.cell? ⟨Bz.heap.size,0,none⟩=some (.int .i64 1):=by simp
            clear Cv
            go_region_held3 (fun w'=>w'.cell? ⟨w.heap.size,0,none⟩=some (.int .i64 (I:Int)))
             (first
               | with_reducible exact k8.o _ (hS.ext.trans e0)
               | with_reducible exact k8.o _ (hS.ext.trans e1)
               | with_reducible exact k8.o _ (hS.ext.trans e2)
               | with_reducible exact k8.o _ (hS.ext.trans e12)
               | with_reducible exact k8.o _ (hS.ext.trans e21)
               | with_reducible exact k8.o _ hS.ext
               | with_reducible exact k8.o _ (hS.ext.trans (Ext.alloc _ _))
               | with_reducible exact HKST.o _ hS.ext _ _ _)
             (first
               | (go_at_call 60
                  (with_reducible refine(NK.o _).mono ?_)
                  rintro e w17 ⟨⟨vT,rfl,S'⟩,Wg⟩;obtain⟨aT,nT,cT,rfl,hnT⟩:=S'.var;have SL:=hS.hz;have HT:=ae (S'.mono (base':=Bz.heap.size) (by first|exact SL|(simp;omega)))
                  first
                   | (with_reducible have hS:=hS.more Wg)
                   | (with_reducible have hS:=hS.more ((Ext.alloc _ _).trans Wg))
                  first
                   | (with_reducible have zx:=Wg.k6 zx)
                   | (have zx:w17.cell? ⟨wA.heap.size,0,none⟩=some (.int .i64 1):=Wg.k6 (by simp;done))
                   | skip
                  have hs17:=hS.ext.size
                  clear S' hnT Wg)
               | (refine ci _ j0 ?_
                  refine eD _ _ j0 (w.heap.size+2) (.slice aA I cA) vs j0 (by with_reducible exact hS.out.ext e1) _ _ 1 j0 (by simp;rfl) j0 Ul.o (by simp;omega) ?_;intro v16 wA ho hg l7;have hS:=hS.push e1 hg ho zV.o;obtain⟨a16,n16,c16,rfl,QJ⟩:=ho.var;have WC:=hS.ext.size
                  clear ho hg l7)
               | (refine ci _ j0 ?_
                  refine eD _ _ j0 (w.heap.size+2) (.slice aA I cA) vs j0 (by with_reducible exact hS.out.ext e12) _ _ 1 j0 (by simp;rfl) j0 Ul.o (by simp;omega) ?_;intro v16 wA ho hg l7;have zx:=hg.cell b12 (JP.o _ (Nat.le_succ _));have hS:=hS.push e12 hg ho zV.o;obtain⟨a16,n16,c16,rfl,QJ⟩:=ho.var;have WC:=hS.ext.size
                  clear ho hg l7)
               | (refine ci _ j0 ?_
                  refine eD _ _ j0 (w.heap.size+2) (.slice aA I cA) vs j0 (by with_reducible exact hS.out.ext e21) _ _ 1 j0 (by simp;rfl) j0 Ul.o (by simp;omega) ?_;intro v16 wA ho hg l7;have zx:=hg.cell b21 (JP.o _ (Nat.le_refl _));have hS:=hS.push e21 hg ho zV.o;obtain⟨a16,n16,c16,rfl,QJ⟩:=ho.var;have WC:=hS.ext.size
                  clear ho hg l7)
               | (refine ci _ j0 ?_
                  refine co _ _ j0 Bz.heap.size (.slice aT nT cT) (List.replicate I 0) j0 (by with_reducible exact HT.o) _ 1 _ [(1:Int)] j0 (Ints.SH zx) (by simp;omega) hS.hz ?_;intro v18 wZ ho hg l7;have hS:=hS.RM (Ext.refl _) HT.o hg RX.o;obtain⟨a18,n18,c18,rfl,HN18⟩:=ho.var;have HZ:=ae ho;have hs18:=hS.ext.size;have Fj:=k8.o _ hS.ext;have yN:=xE.A3 (xU.o _ hS.ext);have yC:=xE.A2 (xU.o _ hS.ext);have AX:=xE.BI (xU.o _ hS.ext);have CZ:=xE.B4 (xU.o _ hS.ext)
                  clear ho hg l7)
               | (refine ci _ j0 ?_
                  refine co _ _ j0 Bz.heap.size (.slice aT nT cT) (List.replicate I 0) j0 (HT.o.ext (Ext.alloc _ _)) _ 1 _ [(1:Int)] j0 (Ints.Ad w17 _ _ _ j0) (by simp;omega) (by have:=hS.hz;simp;omega) ?_;intro v18 wZ ho hg l7;have hS:=hS.RM (Ext.alloc _ _) (HT.o.ext (Ext.alloc _ _)) hg RX.o;obtain⟨a18,n18,c18,rfl,HN18⟩:=ho.var;have HZ:=ae ho;have hs18:=hS.ext.size;have Fj:=k8.o _ hS.ext;have yN:=xE.A3 (xU.o _ hS.ext);have yC:=xE.A2 (xU.o _ hS.ext);have AX:=xE.BI (xU.o _ hS.ext);have CZ:=xE.B4 (xU.o _ hS.ext)
                  clear ho hg l7)
               | fail)
            all_goals
             have HS:=ae hS;clear hS Qg e0 e1 e2 e12 e21 b12 b21 Fj
             try clear zx
             go_wp2_with fail;refine bodyPost_ret (v:=.tuple #[.agg #[.slice a16 n16 c16,.slice a18 n18 c18,.slice aR nR cR],.bool true]) (by simp[results,Tryz.results21,go_sem,yN,yC,AX]) rfl ⟨⟨_,_,_,_,by rw[Is.o],(((((xe.on HS.o.out).set e7 _).set e7 _).set e7 _).here).mono' b9,?_,?_,?_,?_⟩,?_⟩
             ·rw[UE.o.1,Int.toNat_natCast];have hA:(List.range I).map (AH (bZ V L) I)++[lr]=stA I V L:=by unfold stA;rw[List.range_succ,List.map_append,HLR0.o];rfl
              rw[<-hA];exact(((((bC.on HS.o.rows).set e7 _).set e7 _).set e7 _).here).mono' b9
             ·rw[UE.o.2.1,Int.toNat_natCast,<-vR];exact(((((o8.on HZ.o).set (by simp;omega) _).set (by simp;omega) _).set (by simp;omega) _).here).mono b9
             ·rw[UE.o.2.2];exact(((((l8.on HS.o.c).set e7 _).set e7 _).set e7 _).here).mono b9
             ·exact fun i k hi hk C0=>by
               have h1:=HS.o.top i k (by rw[<-HS.o.rows.len];exact hi) hk;have h2:=(HZ.o.lt k C0).1;omega
             ·exact(((wM.o.trans HS.o.ext).store 0 b9 _).store 1 b9 _).store 2 b9 _
theorem tu(e:Nat->j9->j9->j9)(M:j7):∀n,(runM e M n).2<=n
 | 0=>Nat.le_refl _
 | n+1=>by
   have ih:=tu e M n;unfold runM Ao
   split
   ·show(runM e M n).2+1<=n+1;omega
   ·omega
theorem Lo{p:Int}(h:1<=p)(l:j9):fe p l<=p:=by
 unfold fe
 split
 ·have:=tu bT (l.map (y8 p.toNat)) p.toNat;omega
 ·omega
def ap(q:Nat)(V:j9)(L:j5):AT:=bV aV (stA q V L) (CW q) (Bs V L)
def yf(fr:j9)(r:AT)(k:Nat):j5:=((List.range k).filter fun j=>decide (0<(r.X[j]?.getD (0,0)).1)).map fun j=>(fr[j]?.getD 0,-r.value.1,r.value.2)
theorem oZ(G:j9)(r:AT):yf G r 0=[]:=rfl
theorem ja(G:j9)(r:AT)(k:Nat):yf G r (k+1)=yf G r k++if 0<(r.X[k]?.getD (0,0)).1 then [(G[k]?.getD 0,-r.value.1,r.value.2)] else []:=by
 unfold yf;rw[List.range_succ,List.filter_append,List.map_append]
 congr 1
 by_cases h:0<(r.X[k]?.getD (0,0)).1
 ·simp[h]
 ·simp[h]
def Lp(q:Nat)(r:AT):j6:=(r.Y.take q).map wR
def wV(V:j9)(L:j5):j9:=bd L (V.length-2)
def bJ(V:j9)(L:j5)(r:AT):j5:=L++yf (wV V L) r (wV V L).length
def dg(p:Int)(V:j9)(L:j5):Bool:=decide (fe p (((V.length:Int)-1)::L.map (·.1))=p)
structure BK  where
 ok:Bool
 pt:j6
 st:j5
 rounds:Nat
def BK.no:BK:=⟨false,[],[],0⟩
def wP(p:Int)(V:j9):Nat->j5->Nat->BK
 | 0,_,_=>BK.no
 | f+1,L,k =>
   if xH p V L=true/\(ap p.toNat V L).status=1 then
    (if dg p V (bJ V L (ap p.toNat V L))=true then⟨true,Lp p.toNat (ap p.toNat V L),bJ V L (ap p.toNat V L),k+1⟩
    else wP p V f (bJ V L (ap p.toNat V L)) (k+1))
   else BK.no
def yg(p:Int)(V:j9):BK :=
 if aZ p V=true then(if p=1 then⟨true,[(bD p V,1)],[],0⟩ else wP p V ((wV V []).length+1) [] 0) else BK.no
theorem rF(X:j6)(row:Nat->Int)(m:Nat)(h0:∀j,m<=j->row j=0)(hn:∀j,j<m->row j=1)(hx:∀j,j<m->val (X[j]?.getD (0,0))<=0):∀N,o0 (fun j=>((row j:Int):Rat)*val (X[j]?.getD (0,0))) N<=0
 | 0=>by simp[o0]
 | N+1=>by
   have ih:=rF X row m h0 hn hx N;simp only[o0];by_cases h:N<m
   ·have:=hx N h;rw[hn N h];have e:((1:Int):Rat)=1:=by exact_mod_cast rfl
    rw[e]
    grind
   ·rw[h0 N b9];have e:((0:Int):Rat)=0:=by exact_mod_cast rfl
    rw[e]
    grind
theorem uD(l:j9)(j:Nat):o4 (aw l) j=((l[j]?.getD 0:Int):Rat):=by
 unfold o4;by_cases h:j<l.length
 ·rw[fX h,bp]
 ·rw[List.getElem?_eq_none (by rw[cz];omega),List.getElem?_eq_none b9]
  show val (0,0)=((0:Int):Rat);unfold val;grind
theorem fM{p:Int}(h:aZ p V=true):1<=V.length/\V.length<=32/\p=(p.toNat:Int)/\1<=p.toNat/\p.toNat<=5/\∀y∈V,-500<=y/\y<=500:=by
 obtain⟨n,rfl,h1,h5,hl,_,G⟩:=aW h;have e:(n:Int).toNat=n:=by omega
 rw[e,hl];refine⟨?_,?_,rfl,h1,h5,G⟩
 ·exact(cu n h5).1
 ·exact(cu n h5).2
theorem fu{p:Int}(h:xH p V L=true):aZ p V=true/\2<=p/\CC L ((V.length:Int)-2) L.length=true/\0<(wV V L).length:=by
 obtain⟨h1,_⟩:=both h;obtain⟨h2,h3⟩:=both h1;obtain⟨h4,h5⟩:=both h3;obtain⟨I,G⟩:=both h5;exact⟨h2,of_decide_eq_true h4,I,of_decide_eq_true G⟩
theorem vK{p:Int}(h:xH p V L=true)(hs:(ap p.toNat V L).status=1):yf (wV V L) (ap p.toNat V L) (wV V L).length≠[]:=by
 intro hn;obtain⟨hg,_,_,_⟩:=fu h;obtain⟨h1,_,_,_,_,J⟩:=fM hg;obtain⟨v1,_,v3,_⟩:=eA hs;obtain⟨r,hr⟩:=b8 (ap p.toNat V L);have I:aD aV (stA p.toNat V L) (CW p.toNat) (Bs V L) r=true:=by rw[hr];exact v3
 rw[<-hr]at hs hn;unfold aD at I;rw[if_pos hs]at I;obtain⟨f1,_⟩:=both I;unfold dp at f1;obtain⟨_,f2⟩:=both f1;obtain⟨_,f3⟩:=both f2;unfold dj at f3;have f4:=List.all_eq_true.1 f3 p.toNat (List.mem_range.2 (by simp[stA]));have f5:=of_decide_eq_true f4;have e1:(stA p.toNat V L)[p.toNat]?.getD []=List.replicate (wV V L).length 1++List.replicate (2*(zJ V.length L).length) 0:=by
  unfold wV;rw[qH V (bd L (V.length-2)) (zJ V.length L) p.toNat,gD rfl h1 J L];unfold stA;rw[List.getElem?_map,List.getElem?_range b9,Option.map_some,Option.getD_some]
 have e2:(CW p.toNat)[p.toNat]?.getD 0=1:=by
  unfold CW;rw[List.getElem?_map,List.getElem?_range b9,Option.map_some,Option.getD_some];rw[show decide (p.toNat=p.toNat)=true from decide_eq_true rfl];rfl
 rw[e1,e2]at f5;obtain⟨_,_,_,g4⟩:=dK f5;have hx:∀j,j<(wV V L).length->val (r.X[j]?.getD (0,0))<=0:=by
  intro j hj;obtain⟨_,_,g3,_⟩:=dK f5;have hv:=(g3 j (by rw[cz,List.length_append,List.length_replicate];omega)).2;have Te:¬0<(r.X[j]?.getD (0,0)).1:=by
   intro hp;unfold yf at hn;rw[List.map_eq_nil_iff,List.filter_eq_nil_iff]at hn;exact hn j (List.mem_range.2 hj) (decide_eq_true hp)
  have yP:=(eC (p:=wR (r.X[j]?.getD (0,0))) (by rw[cX];exact hv)).1 (by show 0<=-(r.X[j]?.getD (0,0)).1;omega);rw[cH]at yP
  grind
 have hle:=rF r.X (fun j=>(List.replicate (wV V L).length (1:Int)++List.replicate (2*(zJ V.length L).length) 0)[j]?.getD 0) (wV V L).length (fun j hj=>by
  show(List.replicate (wV V L).length (1:Int)++List.replicate (2*(zJ V.length L).length) 0)[j]?.getD 0=0;rw[List.getElem?_append_right (by rw[List.length_replicate];exact hj),List.getElem?_replicate]
  split<;>rfl) (fun j hj=>by
  show(List.replicate (wV V L).length (1:Int)++List.replicate (2*(zJ V.length L).length) 0)[j]?.getD 0=1
  rw[List.getElem?_append_left (by rw[List.length_replicate];exact hj),List.getElem?_replicate,if_pos hj];rfl) hx (aw (List.replicate (wV V L).length (1:Int)++List.replicate (2*(zJ V.length L).length) 0)).length
 have e3:val ((1:Int),(1:Int))=1:=by rw[bp];exact_mod_cast rfl
 rw[e3]at g4;have e4:o0 (fun j=>o4 (aw (List.replicate (wV V L).length (1:Int)++List.replicate (2*(zJ V.length L).length) 0)) j*o4 r.X j) (aw (List.replicate (wV V L).length (1:Int)++List.replicate (2*(zJ V.length L).length) 0)).length=o0 (fun j=>(((List.replicate (wV V L).length (1:Int)++List.replicate (2*(zJ V.length L).length) 0)[j]?.getD 0:Int):Rat)*val (r.X[j]?.getD (0,0))) (aw (List.replicate (wV V L).length (1:Int)++List.replicate (2*(zJ V.length L).length) 0)).length :=
  aq fun j _=>by rw[uD];rfl
 rw[e4]at g4;have G:(1:Rat)<=0:=by rw[g4];exact hle
 exact absurd G (by decide)
theorem qX{G:j9}{r:AT}(hk:k<=G.length){f:Int×Int×Int}(h:f∈yf G r k):f.1∈G:=by
 unfold yf at h;obtain⟨j,hj,rfl⟩:=List.mem_map.1 h;have:=List.mem_range.1 (List.mem_filter.1 hj).1;have hl:j<G.length:=by omega
 show G[j]?.getD 0∈G;rw[List.getElem?_eq_getElem hl,Option.getD_some];exact List.getElem_mem hl
theorem lT(G:j9)(r:AT)(k:Nat):(yf G r k).length<=k:=by
 unfold yf;rw[List.length_map];have:=List.length_filter_le (fun j=>decide (0<(r.X[j]?.getD (0,0)).1)) (List.range k);rw[List.length_range]at this;exact this
theorem uZ{T:j5}{m:Nat}(hT:T≠[])(hm:∀f∈T,f.1∈bd L m):(bd (L++T) m).length<(bd L m).length:=by
 have e:bd (L++T) m=(bd L m).filter fun s=>!yw T s:=by
  unfold bd;rw[List.filter_filter];refine List.filter_congr fun s _=>?_
  unfold yw;rw[List.any_append];cases L.any _<;>cases T.any _<;>rfl
 rw[e,List.length_filter_lt_length_iff_exists];obtain⟨f,hf⟩:=List.exists_mem_of_ne_nil T hT;refine⟨f.1,hm f hf,?_⟩;have:yw T f.1=true:=List.any_eq_true.2 ⟨f,hf,by simp⟩;rw[this];decide
theorem mT{p:Int}(h:xH p V L=true)(hs:(ap p.toNat V L).status=1):(wV V (bJ V L (ap p.toNat V L))).length<(wV V L).length :=
 uZ (vK h hs) fun _ hf=>qX (Nat.le_refl _) hf
theorem mJ(V:j9):∀(E:j5) (i:Nat) (c:IF),(aN V E)[i]?=some c->∃i':Nat,(aN V E)[i']?=some (c.1,-c.2.1,c.2.2.1,-c.2.2.2.1,c.2.2.2.2)
 | [],i,c,h=>by simp[aN]at h
 | f::E,0,c,h=>by
   simp only[aN,List.flatMap_cons,y6,List.cons_append,List.getElem?_cons_zero,Option.some.injEq]at h;subst h;exact⟨1,by simp[aN,y6]⟩
 | f::E,1,c,h=>by
   simp only[aN,List.flatMap_cons,y6,List.cons_append,List.getElem?_cons_succ,List.getElem?_cons_zero,Option.some.injEq]at h;subst h;exact⟨0,by simp[aN,y6]⟩
 | f::E,i+2,c,h=>by
   simp only[aN,List.flatMap_cons,y6,List.cons_append,List.nil_append,List.getElem?_cons_succ]at h;obtain⟨i',h'⟩:=mJ V E i c h;exact⟨i'+2,by simp only[aN,List.flatMap_cons,y6,List.cons_append,List.nil_append,List.getElem?_cons_succ];exact h'⟩
theorem sK{q:Nat}{j:Nat}{c:IF}(h:(bZ V L)[j]?=some c):xD (stA q V L) j=(List.range (q+1)).map fun k=>c.2.1*wL (Gj q k c):=by
 unfold xD stA;rw[List.map_map];refine List.map_congr_left fun k _=>?_
 show((bZ V L).map fun c=>c.2.1*wL (Gj q k c))[j]?.getD 0=_;rw[List.getElem?_map,h];rfl
theorem kA{j:Nat}{c:IF}(h:(bZ V L)[j]?=some c):(Bs V L)[j]?.getD (0,0)=c.2.2.2:=by
 unfold Bs;rw[List.getElem?_map,h];rfl
theorem O1{p:Int}(h:xH p V L=true)(j:Nat)(hj:j<(Bs V L).length):IJ (stA p.toNat V L) (Bs V L) j:=by
 obtain⟨hg,_,_,_⟩:=fu h;obtain⟨h1,_,_,_,_,J⟩:=fM hg;have G:=gD rfl h1 J L;have hj':j<(bZ V L).length:=by unfold Bs at hj;rw[List.length_map]at hj;exact hj
 obtain⟨c,hc⟩:∃c,(bZ V L)[j]?=some c:=⟨_,List.getElem?_eq_getElem hj'⟩;by_cases hf:j<(bu V (bd L (V.length-2))).length
 ·refine Or.inl ⟨-(V[((bd L (V.length-2))[j]?.getD 0).toNat]?.getD 0),?_,?_⟩
  ·rw[kA hc];rw[<-G,List.getElem?_append_left hf]at hc;unfold bu at hc;rw[ch]at hf;rw[List.getElem?_map,List.getElem?_eq_getElem hf,Option.map_some,Option.some.injEq]at hc;rw[<-hc,List.getElem?_eq_getElem hf,Option.getD_some]
  ·have:=tX hg ((bd L (V.length-2))[j]?.getD 0).toNat;omega
 ·refine Or.inr ?_;have I:=hc;rw[<-G,List.getElem?_append_right b9]at I;obtain⟨i',K⟩:=mJ V _ _ _ I;have hi:(bZ V L)[(bu V (bd L (V.length-2))).length+i']?=some (c.1,-c.2.1,c.2.2.1,-c.2.2.2.1,c.2.2.2.2):=by
   rw[<-G,List.getElem?_append_right b9,Nat.add_sub_cancel_left];exact K
  refine⟨(bu V (bd L (V.length-2))).length+i',?_,?_,?_⟩
  ·have:=(List.getElem?_eq_some_iff.1 hi).1;unfold Bs;rw[List.length_map];exact this
  ·rw[kA hi,kA hc];rfl
  ·rw[sK hi,sK hc,List.map_map];refine List.map_congr_left fun k _=>?_
   show -c.2.1*wL (Gj p.toNat k c)=-(c.2.1*wL (Gj p.toNat k c));rw[Int.neg_mul]
theorem LC{p:Int}(h:xH p V L=true):ap p.toNat V L=eB (stA p.toNat V L) (CW p.toNat) (Bs V L):=nt fun _ j hj=>O1 h j hj
theorem ur{p:Int}(h:aZ p V=true)(h2:2<=p)(s:Int):fe p [s]<p:=by
 obtain⟨_,_,hp,_,h5,_⟩:=fM h;unfold fe;rw[if_pos (by unfold wJ;simp only[Bool.and_eq_true,decide_eq_true_eq];omega)];have:=(io nw (jz p.toNat [s]) p.toNat b9).2.2.1;have e:([s].map (y8 p.toNat)).length=1:=rfl;rw[e]at this;omega
theorem kq{p:Int}(h:xH p V L=true)(hs:(ap p.toNat V L).status=1):
 (wV V L).length<=(ap p.toNat V L).X.length/\(ap p.toNat V L).Y.length=p.toNat+1/\o5 (ap p.toNat V L).value=true/\∀k,k<(ap p.toNat V L).Y.length->o5 ((ap p.toNat V L).Y[k]?.getD (0,0))=true:=by
 obtain⟨v1,_,v3,v4,v5,v6⟩:=eA hs;refine⟨?_,by rw[show(ap p.toNat V L).Y.length=(CW p.toNat).length from v4];simp[CW],v5,v6⟩;have G:aD aV (stA p.toNat V L) (CW p.toNat) (Bs V L) (ap p.toNat V L)=true:=v3;unfold aD at G;rw[if_pos hs]at G;obtain⟨f1,_⟩:=both G;unfold dp at f1;have hl:=of_decide_eq_true (both f1).1;rw[hl];unfold Bs bZ wV;rw[List.length_map,List.length_append,List.length_append,ch];omega
theorem od{p:Int}(h:¬(xH p V L=true/\(ap p.toNat V L).status=1)):wP p V f L k=BK.no:=by
 cases f with
 | zero=>rfl
 | succ f=>unfold wP;rw[if_neg h]
def Dz(p:Int)(V:j9)(f:Nat)(pt:j6)(L:j5)(k:Nat):BK:=if dg p V L=true then⟨true,pt,L,k⟩ else wP p V f L k
theorem uo{p:Int}(hg:aZ p V=true)(h2:2<=p):Dz p V ((wV V []).length+1) [] [] 0=yg p V:=by
 have hd:dg p V []=false:=by
  unfold dg;have:=ur hg h2 ((V.length:Int)-1);exact decide_eq_false (by show¬fe p [(V.length:Int)-1]=p;omega)
 unfold Dz yg;rw[hd,if_pos hg,if_neg e7,if_neg b9]
theorem vQ{p:Int}(hd:dg p V L=false)(h:xH p V L=true)(hs:(ap p.toNat V L).status=1):
 Dz p V (f+1) pt L k=Dz p V f (Lp p.toNat (ap p.toNat V L)) (bJ V L (ap p.toNat V L)) (k+1):=by
 unfold Dz;rw[hd,if_neg e7]
 conv=>lhs;unfold wP
 rw[if_pos ⟨h,hs⟩]
theorem tf{p:Int}(hd:dg p V L=false)(h:¬(xH p V L=true/\(ap p.toNat V L).status=1)):Dz p V f pt L k=BK.no:=by
 unfold Dz;rw[hd,if_neg e7,od h]
theorem vP{p:Int}(hd:dg p V L=true):Dz p V f pt L k=⟨true,pt,L,k⟩:=by
 unfold Dz;rw[hd,if_pos rfl]
theorem te{r:AT}(hn:V.length<=32)(h:∀f∈L,f.1<=1000)(hk:L.length<=32*k):(∀f∈bJ V L r,f.1<=1000)/\(bJ V L r).length<=32*(k+1):=by
 refine⟨fun f hf=>?_,?_⟩
 ·rcases List.mem_append.1 hf with h1|h1
  ·exact h f h1
  ·have:=(iU (qX (Nat.le_refl _) h1)).2.1;omega
 ·unfold bJ;rw[List.length_append];have h1:=lT (wV V L) r (wV V L).length;have h2:(wV V L).length<=V.length-2:=ew L (V.length-2);omega
def Sl(P:Program)(w:World)(fid:FuncId)(ca:Array Value)(p:k5->Bool):Prop :=
 ∀x y (w1:World),Ext w w1->Calls P fid (#[xO x y]++ca) w1 fun e w2=>e=.returned (.bool (p (x,y)))/\Ext w1 w2
theorem ob{cap:Nat}{ca:Array Value}{p:k5->Bool}(h:r8 w a n cap l)(hg:IsGo Tryz.prog fid)(hf:Sl Tryz.prog w fid ca p):
 Calls Tryz.prog 164 #[.slice a n cap,.func (.func fid) #[] ca] w fun e w'=>e=.returned (.int .i64 (bU p l))/\Ext w w':=by
 have hn:=h.o3;have hm:=h.l9;have HL:=ae h.hlen;have HI:=ae h;have J:=ae hf;clear h hf;have XI:∀(args:Array Value) (w:World),(callFunc fid args).run Tryz.prog w=.ok (.enter fid args) w:=hg;go_enter Tryz.func164,Tryz.ntmps164
 go_wp2_with fail
 go_loopg [8] n (fun gk ii wr=>∃k:Nat,b7 (gk+k=n)/\ii=.int .i64 (k:Int)/\b7 ((l.take k).all (fun x=>!p x)=true)/\b7 (Ext w wr))
 case atStart=>exact⟨0,ae b9,rfl,ae rfl,ae (Ext.refl _)⟩
 case round =>
  obtain⟨g1,K⟩:=b8 gk;subst K;obtain⟨O,R⟩:=b8 wr;subst R;obtain⟨k,I,rfl,HA,HX⟩:=hrel;by_cases hlt:k<n
  ·obtain⟨b,off,x,y,rfl,G,y5,yq⟩:=(HI.o.ext HX.o).at hlt;have HF:=ae (J.o x y O HX.o);cases hb:p (x,y)
   all_goals
    rw[hb]at HF
   ·have HT:=ae (show(l.take (k+1)).all (fun x=>!p x)=true by
     rw[List.take_succ_eq_append_getElem (by rw[HL.o];exact hlt),List.all_append,HA.o];have:l[k]'(by rw[HL.o];exact hlt)=(x,y):=by rw[List.getElem?_eq_getElem (by rw[HL.o];exact hlt)]at G;simpa using G
     rw[this];simp[hb])
    clear G hb;go_wp2_with fail;refine HF.o.mono ?_;rintro e w2 ⟨rfl,xg⟩;go_wp2_with fail
    go_roundg (g1-1)
    case measure=>have:=I.o;omega
    case rel=>exact⟨k+1,ae (j4 I.o),by go_num,HT,ae (HX.o.trans xg)⟩
   ·have HB:=ae (show bU p l=k from fh (d:=(0,0)) (by rw[HL.o];exact hlt) HA.o (by rw[G];exact hb));clear G hb;go_wp2_with fail;refine HF.o.mono ?_;rintro e w2 ⟨rfl,xg⟩;go_wp2_with fail;go_ret;exact⟨aU HB.o.symm,HX.o.trans xg⟩
  ·have HT:=ae (show bU p l=-1 by
    have h2:=HA.o;rw[List.take_of_length_le (by rw[HL.o];have:=I.o;omega)]at h2
    exact dZ h2)
   go_wp2_with fail;go_ret;exact⟨aU HT.o.symm,HX.o⟩
theorem ia{cap:Nat}{ca:Array Value}{p:k5->Bool}(h:r8 w a n cap l)(hg:IsGo Tryz.prog fid)(hf:Sl Tryz.prog w fid ca p):
 Calls Tryz.prog 141 #[.slice a n cap,.func (.func fid) #[] ca] w fun e w'=>e=.returned (.bool (l.any p))/\Ext w w':=by
 have HC:=ae (ob h hg hf);clear h hf;go_enter Tryz.func141,Tryz.ntmps141
 go_wp2_with fail;refine HC.o.mono ?_;rintro e w2 ⟨rfl,xg⟩
 go_wp2
 all_goals go_ret;refine⟨ag ?_,xg⟩;rw[<-ig]
theorem rZ(x y:Int)(w:World):Calls Tryz.prog 142 #[xO x y] w fun e w'=>e=.returned (.bool (!o5 (x,y)))/\Ext w w':=by
 have HX:=ae (Ext.alloc w (.cells #[.int .i64 x,.int .i64 y] 46));go_enter Tryz.func142,Tryz.ntmps142
 go_wp2_with fail;refine(az x y _).mono ?_;rintro e w1 ⟨rfl,hx⟩;have X1:=ae (HX.o.trans hx);clear hx;go_wp2_with fail;go_ret;exact⟨rfl,X1.o⟩
theorem qt:IsGo Tryz.prog 142:=isGo Tryz.func142 e8 e8
theorem jA{cap:Nat}(h:r8 w a n cap l):
 Calls Tryz.prog 94 #[.slice a n cap] w fun e w'=>e=.returned (.bool (yz l))/\Ext w w':=by
 have HC:=ae (ia h qt (ca:=#[]) (p:=fun r=>!o5 r) (fun x y w1 _=>rZ x y w1));have HE:=ae (show(!l.any (fun r=>!o5 r))=yz l by unfold yz;rw[List.not_any_eq_all_not];simp);clear h;go_enter Tryz.func94,Tryz.ntmps94
 go_wp2_with fail;refine HC.o.mono ?_;rintro e w1 ⟨rfl,hx⟩;have X1:=ae hx;clear hx;go_wp2_with fail;go_ret;exact⟨ag HE.o,X1.o⟩
theorem nY(x y:Int)(w:World):Calls Tryz.prog 154 #[xO x y] w fun e w'=>e=.returned (.bool (!(o5 (x,y)&&decide (0<=x))))/\Ext w w':=by
 have HX:=ae (Ext.alloc w (.cells #[.int .i64 x,.int .i64 y] 46));have HV:=ae (fun w=>az x y w);cases hv:o5 (x,y)
 ·rw[hv]at HV;clear hv;go_enter Tryz.func154,Tryz.ntmps154
  go_wp2_with fail;refine(HV.o _).mono ?_;rintro e w1 ⟨rfl,hx⟩;have X1:=ae (HX.o.trans hx);clear hx;go_wp2_with fail;go_ret;exact⟨rfl,X1.o⟩
 ·rw[hv]at HV;clear hv;cases wI:decide (0<=x)
  ·have hlt:decide (x<0)=true:=by simp at wI⊢;omega
   clear wI;go_enter Tryz.func154,Tryz.ntmps154
   go_wp2_with fail;refine(HV.o _).mono ?_;rintro e w1 ⟨rfl,hx⟩;have hc:w1.cell? ⟨w.heap.size,0,none⟩=some (.int .i64 x):=hx.k6 e7;have X1:=ae (HX.o.trans hx);clear hx;go_wp2_with fail;go_ret;exact⟨rfl,X1.o⟩
  ·have hlt:decide (x<0)=false:=by simp at wI⊢;omega
   clear wI;go_enter Tryz.func154,Tryz.ntmps154
   go_wp2_with fail;refine(HV.o _).mono ?_;rintro e w1 ⟨rfl,hx⟩;have hc:w1.cell? ⟨w.heap.size,0,none⟩=some (.int .i64 x):=hx.k6 e7;have X1:=ae (HX.o.trans hx);clear hx;go_wp2_with fail;go_ret;exact⟨rfl,X1.o⟩
theorem mM:IsGo Tryz.prog 154:=isGo Tryz.func154 e8 e8
theorem jZ{cap:Nat}(h:r8 w a n cap l)(m:Nat):
 Calls Tryz.prog 114 #[.slice a n cap,.int .i64 (m:Int)] w fun e w'=>e=.returned (.bool (decide (l.length=m)&&BC l))/\Ext w w':=by
 have o3:=h.o3;have l9:=h.l9;have HL:=ae h.hlen;have HC:=ae (ia h mM (ca:=#[]) (p:=fun r=>!(o5 r&&decide (0<=r.1))) (fun x y w1 _=>nY x y w1));have HE:=ae (show(!l.any (fun r=>!(o5 r&&decide (0<=r.1))))=BC l by unfold BC;rw[List.not_any_eq_all_not];simp);clear h;cases hn:((n:Int) == (m:Int))
 ·have HN:=ae (show decide (l.length=m)=false by rw[HL.o];simp at hn⊢;omega);go_enter Tryz.func114,Tryz.ntmps114
  go_wp2_with fail;go_ret;exact⟨ag (by rw[HN.o];rfl),Ext.refl _⟩
 ·have HN:=ae (show decide (l.length=m)=true by rw[HL.o];simp at hn⊢;omega);go_enter Tryz.func114,Tryz.ntmps114
  go_wp2_with fail;refine HC.o.mono ?_;rintro e w1 ⟨rfl,hx⟩;have X1:=ae hx;clear hx;go_wp2_with fail;go_ret;exact⟨ag (by rw[HN.o,<-HE.o];simp),X1.o⟩
end Go.Proofs.YtalmoolkhcgmmaaGreat
