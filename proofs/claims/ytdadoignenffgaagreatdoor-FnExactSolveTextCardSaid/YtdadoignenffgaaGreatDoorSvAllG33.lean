import Derived.Test.YtdadoignenffgaaGreatDoorSvAllG32
import Derived.Test.YtdadoignenffgaaGreatDoorSvAllG20
import Derived.Test.YtdadoignenffgaaGreatDoorSvAllG8
import Derived.Test.YtdadoignenffgaaGreatDoorSvAllG23
import Derived.Test.YtdadoignenffgaaGreatDoorSvAllG29
import Derived.Test.YtdadoignenffgaaGreatDoorSvAllG14
set_option linter.unusedVariables false
set_option linter.unusedSimpArgs false
namespace Go.Proofs.YtdadoignenffgaaGreatDoor
variable{V:j7}{L:j2}{k f:Nat}{pt:j4}
set_option maxHeartbeats 16000000
set_option maxRecDepth 100000
open Go.RowKit
theorem mN{p:Int}(h:wu p V L=true):C5 p V L=stA p.toNat V L/\C4 p V L=Gs p.toNat/\C3 p V L=BF V L:=by unfold C5 C4 C3;rw[h];exact⟨rfl,rfl,rfl⟩
theorem pw{α β:Type}(f:α->β)(A B T:List α):(A++B).map f++T.map f=(A++(B++T)).map f:=by simp
theorem IT{p:Int}{n:Nat}(hg:dG p V L=true)(hn:V.length=n)(h1:1<=n)(E:∀y∈V,-500<=y/\y<=500):wu p V L=(zJ n L).all (F9 V):=by
 unfold wu;rw[hg,toQ hn h1 E];rfl
theorem tS{w:World}{p:Int}{a:j6}{n cap:Nat}(hV:Ints w a n cap V){fa:j6}{fn zw:Nat}(h:xV w fa fn zw L)(hfn:fn<=1048576):
 Calls Tryz.prog 80 #[pair p a n cap,.slice fa fn zw] w fun e w' =>
  lg w' w.heap.size e (C5 p V L) (C4 p V L) (C3 p V L) (wu p V L)/\Ext w w':=by
 obtain⟨W,hW⟩:=b9 ((w.alloc (.cells #[.int .i64 p,.slice a n cap] 32)).alloc (.cells #[.slice none 0 0,.slice none 0 0,.slice none 0 0] 68));have Z:=ae (show W.heap.size=w.heap.size+2 by rw[hW];simp);have uV:=ae (show Ext w W by rw[hW];exact(Ext.alloc _ _).trans (Ext.alloc _ _));have D9:=ae (show W.cell? ⟨w.heap.size,1,none⟩=some (.slice a n cap)by rw[hW];simp);have D8:=ae (show W.cell? ⟨w.heap.size,0,none⟩=some (.int .i64 p)by rw[hW];simp);have K1:=ae (show W.heap[w.heap.size+1]?=some (.cells #[.slice none 0 0,.slice none 0 0,.slice none 0 0] 68 (0,0))by rw[hW];exact aj _ _ _ e8);have xJ:=ae hV.hlen;have EU:=hV.l8;have ET:=hV.o0;have Kg:=h.l8;have Kf:=h.o0;have C2:=ae h.hlen;have HF:=ae (h.ext uV.o);have Cb:=ae (hV.ext uV.o);have HC:=ae (dR (p:=p) (hV.ext uV.o));have Dj:(w.heap.size+1)<W.heap.size:=by rw[Z.o];omega
 have wi:=ae (fun(w':World) (hx:Ext W w')=>(hx.block _ Dj).trans K1.o)
 have xD:=ae (fun(w':World) (hx:Ext W w') (hno:wu p V L=false) (e:Ending) (he:e=.returned (.tuple #[.agg #[.slice none 0 0,.slice none 0 0,.slice none 0 0],.bool false])) =>
  show lg (((w'.setCell ⟨w.heap.size+1,0,none⟩ (.slice none 0 0)).setCell ⟨w.heap.size+1,1,none⟩ (.slice none 0 0)).setCell ⟨w.heap.size+1,2,none⟩ (.slice none 0 0)) w.heap.size e (C5 p V L) (C4 p V L) (C3 p V L) (wu p V L)/\Ext w (((w'.setCell ⟨w.heap.size+1,0,none⟩ (.slice none 0 0)).setCell ⟨w.heap.size+1,1,none⟩ (.slice none 0 0)).setCell ⟨w.heap.size+1,2,none⟩ (.slice none 0 0))from
   ⟨⟨_,_,_,[],by rw[hno];exact he,vv.nil _ _,by unfold C5;rw[hno,if_neg e8];exact bu.nil _ _,by unfold C4;rw[hno,if_neg e8];exact o5.nil _ _,by unfold C3;rw[hno,if_neg e8];exact l9.nil _ _,Be.nil _⟩,
     (((uV.o.trans hx).store 0 e7 _).store 1 e7 _).store 2 e7 _⟩)
 clear h hV Dj;cases hg:aH p V
 ·have HG:=ae (show wu p V L=false by unfold wu dG;rw[hg];rfl);rw[hg,hW]at HC;clear hg;go_enter Tryz.func80,Tryz.ntmps80
  go_wp2_with fail;refine HC.o.mono ?_;rw[<-hW];rintro e w1 ⟨rfl,U⟩;have xA:=vz.ym (wi.o w1 U);have xm:=vz.yk (wi.o w1 U);have yI:=vz.yj (wi.o w1 U);have CT:=vz.y8 (wi.o w1 U);have vh:=ae U;clear U;go_wp2_with fail;refine bodyPost_ret (v:=.tuple #[.agg #[.slice none 0 0,.slice none 0 0,.slice none 0 0],.bool false]) (by simp[results,Tryz.results80,go_sem,xA,xm,yI]) rfl (xD.o _ vh.o HG.o _ rfl)
 ·obtain⟨q,rfl,h1,h5,hlen,_,xK⟩:=bF hg;have N3:=ae hg;rw[hg,hW]at HC;clear hg;by_cases An:q<2
  ·have HG:=ae (show wu (q:Int) V L=false by unfold wu dG;rw[N3.o,decide_eq_false (by omega:¬(2:Int)<=(q:Int))];rfl);clear hlen xK;have J2:(q:Int)<2:=by omega
   go_enter Tryz.func80,Tryz.ntmps80
   go_wp2_with fail;refine HC.o.mono ?_;rw[<-hW];rintro e w1 ⟨rfl,U⟩;have wK:=U.j9 D8.o;have xA:=vz.ym (wi.o w1 U);have xm:=vz.yk (wi.o w1 U);have yI:=vz.yj (wi.o w1 U);have CT:=vz.y8 (wi.o w1 U);have vh:=ae U;clear U;go_wp2_with fail;refine bodyPost_ret (v:=.tuple #[.agg #[.slice none 0 0,.slice none 0 0,.slice none 0 0],.bool false]) (by simp[results,Tryz.results80,go_sem,xA,xm,yI]) rfl (xD.o _ vh.o HG.o _ rfl)
  ·have EZ:4<=n:=by have:=GK (n:=q) e7 h5;rw[<-xJ.o,hlen];exact this
   have BS:n<=32:=by have:=cW q h5;rw[<-xJ.o,hlen];exact this.2
   obtain⟨u,rfl⟩:∃u,n=u+1:=⟨n-1,by omega⟩;have B0:=ae xK
   have V2:=ae (show dG (q:Int) V L=(A3 L ((u:Int)-1) fn&&decide (0<(aN L (u+1-2)).length))by
    unfold dG;rw[N3.o,decide_eq_true (by omega:(2:Int)<=(q:Int)),xJ.o,C2.o]
    rw[show(((u+1:Nat):Int))-2=(u:Int)-1 by omega];rfl)
   have J2:¬(q:Int)<2:=by omega
   have DK:((u+1:Nat):Int)-1=(u:Int):=by omega
   clear hlen xK;go_enter Tryz.func80,Tryz.ntmps80
   go_wp2_with fail;refine HC.o.mono ?_;rw[<-hW];clear hW;rintro e w1 ⟨rfl,U⟩;have wK:=U.j9 D8.o;have xB:=U.j9 D9.o;have vh:=ae U;clear U HC;go_wp2_with fail;clear wK xB
   go_loopg [7,39] fn (fun gk ss ii wr=>∃k:Nat,b7 (gk+k=fn)/\ii=.int .i64 (k:Int)/\ss=.int .i64 ((fo (L.take k):Nat):Int)/\b7 (A3 L ((u:Int)-1) k=true)/\b7 (Ext W wr))
   case atStart=>exact⟨0,ae e7,rfl,rfl,ae rfl,vh⟩
   case round =>
    obtain⟨g1,o6⟩:=b9 gk;subst o6;obtain⟨o8,o4⟩:=b9 wr;subst o4;obtain⟨k,HK,rfl,rfl,HO,HX⟩:=hrel;have Cq:=HX.o.size;rw[Z.o]at Cq;by_cases hlt:k<fn
    ·obtain⟨b,off,c,x,y,rfl,xQ,Ki,Kh,Iq⟩:=(HF.o.ext HX.o).at hlt;have Ab:k<L.length:=by rw[C2.o];exact hlt
     have Vs:=wi.o o8 HX.o;have FU:IntKind.i64.wrap ((u:Int)-1)=(u:Int)-1:=by rw[IntKind.wrap_i64];omega
     cases hb:r' c 1 ((u:Int)-1)
     ·have HG:=ae (show wu (q:Int) V L=false by
       unfold wu;rw[V2.o,gn (k:=k) (m:=fn) (by rw[xQ];simp only;rw[hb];rfl) hlt];rfl)
      have z7:=wi.o _ (HX.o.trans (Ext.alloc o8 (.cells #[.int .i64 c,.int .i64 x,.int .i64 y] 83)));have xA:=vz.ym z7;have xm:=vz.yk z7;have yI:=vz.yj z7;have CT:=vz.y8 z7;clear z7;clear xQ Vs;go_wp2_with (first|(go_at_call 61;refine(aJ _ _ _ _).mono ?_;rw[hb];rintro e w' ⟨rfl,rfl⟩));refine bodyPost_ret (v:=.tuple #[.agg #[.slice none 0 0,.slice none 0 0,.slice none 0 0],.bool false]) (by simp[results,Tryz.results80,go_sem,xA,xm,yI]) rfl (xD.o _ (HX.o.trans (Ext.alloc _ _)) HG.o _ rfl)
     ·have Qi:1<=c/\c<=(u:Int)-1:=by unfold r' at hb;simpa using hb
      obtain⟨t,rfl⟩:∃t:Nat,c=t:=⟨c.toNat,by omega⟩;have GG:∀f∈L.take k,1<=f.1/\f.1<=(u:Int)-1:=by
       intro f hf;obtain⟨i,hi,rfl⟩:=List.mem_take_iff_getElem.1 hf;have:=(List.all_eq_true.1 HO.o) i (List.mem_range.2 e7);rw[List.getElem?_eq_getElem e7]at this;simp only[Option.getD_some,Bool.and_eq_true,r',decide_eq_true_eq]at this;exact this.1
      have Fw:=I1 (L.take k) (fun f hf=>by have:=GG f hf;omega);have Is:=oC ((fo (L.take k):Nat):Int) t e7 e7;rw[NB,uK t _ (fun f hf=>by have:=GG f hf;omega)]at Is;have hpw:=Jf t e7;have OC:IntKind.i64.wrap ((2:Int)^t)=2^t:=by rw[IntKind.wrap_i64];omega
      cases hh:xT (L.take k) (t:Int)
      ·rw[hh]at Is;have HN:=ae (show A3 L ((u:Int)-1) (k+1)=true by rw[nI,HO.o,xQ];simp only;rw[hb,hh];rfl);have MW:=tf Ab;rw[xQ]at MW;simp only[Int.toNat_natCast]at MW;have J7:=Pt (k:=t) Fw e7;rw[<-MW]at J7;clear MW xQ GG hh;obtain⟨s0,AO⟩:=b9 (fo (L.take k));obtain⟨s1,BQ⟩:=b9 (fo (L.take (k+1)));rw[<-AO]at Is J7 Fw;rw[<-BQ]at J7;rw[<-AO];have AI:=ae BQ;clear AO BQ;go_wp2_with (first|(go_at_call 61;refine(aJ _ _ _ _).mono ?_;rw[hb];rintro e w' ⟨rfl,rfl⟩))
       go_roundg (g1-1)
       case measure=>have:=HK.o;omega
       case rel=>exact⟨k+1,ae (j1 HK.o),by go_num,by rw[<-AI.o],HN,ae (HX.o.trans (Ext.alloc _ _))⟩
      ·rw[hh]at Is
       have HG:=ae (show wu (q:Int) V L=false by
        unfold wu;rw[V2.o,gn (k:=k) (m:=fn) (by rw[xQ];simp only;rw[hh];simp) hlt];rfl)
       have z7:=wi.o _ (HX.o.trans (Ext.alloc o8 (.cells #[.int .i64 (t:Int),.int .i64 x,.int .i64 y] 83)));have xA:=vz.ym z7;have xm:=vz.yk z7;have yI:=vz.yj z7;have CT:=vz.y8 z7;clear z7;clear xQ Vs GG hh;obtain⟨s0,AO⟩:=b9 (fo (L.take k));rw[<-AO]at Is Fw;rw[<-AO];clear AO;go_wp2_with (first|(go_at_call 61;refine(aJ _ _ _ _).mono ?_;rw[hb];rintro e w' ⟨rfl,rfl⟩));refine bodyPost_ret (v:=.tuple #[.agg #[.slice none 0 0,.slice none 0 0,.slice none 0 0],.bool false]) (by simp[results,Tryz.results80,go_sem,xA,xm,yI]) rfl (xD.o _ (HX.o.trans (Ext.alloc _ _)) HG.o _ rfl)
    ·have RL:k=fn:=by have:=HK.o;omega
     subst RL;have RU:∀f∈L,1<=f.1/\f.1<=(u:Int)-1:=by
      intro f hf;obtain⟨i,hi,rfl⟩:=List.getElem_of_mem hf;have:=(List.all_eq_true.1 HO.o) i (List.mem_range.2 (by rw[<-C2.o];exact hi));rw[List.getElem?_eq_getElem hi]at this;simp only[Option.getD_some,Bool.and_eq_true,r',decide_eq_true_eq]at this;exact this.1
     have xi:=ae RU;have Ib:=ae (gU (w:=o8) (q:Int) a (u+1) cap e7 e7 (HF.o.ext HX.o));have Fl:=ae (fun s=>il (L:=L) (m:=u+1-2) (s:=s));have B4:=ae (dA L (u+1-2));have YC:=HX.o.j9 D8.o;have hcB:=HX.o.j9 D9.o;clear RU;go_wp2_with fail;refine Ib.o.mono ?_;rintro e w2 ⟨⟨vf,rfl,Nf⟩,vL⟩;obtain⟨af,m,cf,rfl,RO⟩:=Nf.var;have wF:=ae (HX.o.trans vL);have Rn:=ae (Nf.mono (base':=w.heap.size+2) Cq);have EG:=ae RO.out;have Tj:m<=32:=by have:=B4.o;have:=RO.out;omega
     have AN:=wF.o.size;rw[Z.o]at AN;clear Nf RO vL YC hcB Ib;by_cases Cu:m=0
     ·subst Cu
      have HG:=ae (show wu (q:Int) V L=false by
       unfold wu;rw[V2.o,EG.o];simp)
      have z7:=wi.o _ wF.o;have xA:=vz.ym z7;have xm:=vz.yk z7;have yI:=vz.yj z7;have CT:=vz.y8 z7;clear z7;go_wp2_with fail;refine bodyPost_ret (v:=.tuple #[.agg #[.slice none 0 0,.slice none 0 0,.slice none 0 0],.bool false]) (by simp[results,Tryz.results80,go_sem,xA,xm,yI]) rfl (xD.o _ wF.o HG.o _ rfl)
     ·have GV:=ae (show dG (q:Int) V L=true by rw[V2.o,HO.o,EG.o];simp;omega);have hmz:((m:Int) == 0)=false:=by simpa using Cu
      have N9:=ae (iG Rn.o.ints e7);have Ti:=Rn.o.ints.l8;have Th:=Rn.o.ints.o0;go_wp2_with fail;refine N9.o.mono ?_;rintro e w3 ⟨vcl,rfl,Yy,vj⟩;obtain⟨acl,ncl,ccl,rfl,Ta⟩:=Yy.var;have HNCL:=ae (show ncl=m by rw[<-Ta.out,EG.o]);have vk:=ae (wF.o.trans vj);have HFO3:=ae (Rn.o.ext vj);have HCO3:=ae (Yy.mono (base':=w.heap.size+2) AN);have BP:=vk.o.size;rw[Z.o]at BP;have UB:=ae (l9.made w3 (w.heap.size+2) BP);clear Yy Ta vj;go_wp2_with fail
      go_loopg [12,76] m (fun gk cc ii wr=>∃(k:Nat) (a1:j6) (n1 p1:Nat),b7 (gk+k=m)/\ii=.int .i64 (k:Int)/\cc=.slice a1 n1 p1/\b7 (l9 wr (w.heap.size+2) (.slice a1 n1 p1) ((bd V ((aN L (u+1-2)).take k)).map fun c=>c.2.2.2))/\b7 (o5 wr (w.heap.size+2) (.slice af m cf) (aN L (u+1-2)))/\b7 (o5 wr (w.heap.size+2) (.slice acl ncl ccl) (aN L (u+1-2)))/\b7 (Ext W wr))
      case atStart=>exact⟨0,_,_,_,ae e7,rfl,rfl,UB,ae (HFO3.o.ext (Ext.alloc _ _)),ae (HCO3.o.ext (Ext.alloc _ _)),ae (vk.o.trans (Ext.alloc _ _))⟩
      case round =>
       obtain⟨g2,wv⟩:=b9 gk;subst wv;obtain⟨wr2,vo⟩:=b9 wr;subst vo;obtain⟨j,a1,n1,p1,HJ,rfl,rfl,O1,Pa,Lu,R4⟩:=hrel;have SQ:=R4.o.size;rw[Z.o]at SQ;have hcB:=R4.o.j9 D9.o;by_cases Cw:j<m
       ·obtain⟨b,off,he,RC⟩:=Pa.o.ints.at Cw;subst he;obtain⟨s,hs⟩:=b9 ((aN L (u+1-2))[j]?.getD 0);rw[<-hs]at RC;have yW:j<(aN L (u+1-2)).length:=by rw[EG.o];exact Cw
        have hsm:=Fl.o s (by rw[hs,List.getElem?_eq_getElem yW];exact List.getElem_mem yW);obtain⟨t,rfl⟩:∃t:Nat,s=t:=⟨s.toNat,by omega⟩;have PI:t<u+1:=by omega
        obtain⟨vb,O,LF,Er⟩:=((Cb.o.ext R4.o).at PI);subst LF;have Dd:=ek B0.o t;obtain⟨y,hy⟩:=b9 (V[t]?.getD 0);rw[<-hy]at Er Dd
        have xZ:=ae (show((bd V ((aN L (u+1-2)).take j)).map fun c=>c.2.2.2)++[(-y,1)]=(bd V ((aN L (u+1-2)).take (j+1))).map fun c=>c.2.2.2 by
         rw[<-ke V yW,<-hs,hy];simp)
        have FU:IntKind.i64.wrap (-y)=-y:=by rw[IntKind.wrap_i64];omega
        have DQ:=ae (show((bd V ((aN L (u+1-2)).take j)).map fun c=>c.2.2.2).length<=1000 by rw[List.length_map,cZ,List.length_take];have:=B4.o;omega);clear hs hsm hy yW
        go_wp2_with (first
         | (go_at_call 71;refine(cv _ _).mono ?_;rintro e w4 ⟨rfl,vW⟩;have PQ:=vW.size;have zS:=ae (O1.o.ext vW);have HF4:=ae (Pa.o.ext vW);have HC4:=ae (Lu.o.ext vW);have xO:=ae (R4.o.trans vW);clear vW)
         | (at_builtin;refine aI rfl _ _ rfl (w.heap.size+2) (.slice a1 n1 p1) _ rfl (zS.o.ext (Ext.alloc _ _)) _ 1 _ [(-y,1)] rfl (Rats.one' _ _ _ _ _ e8) (j1 DQ.o) (by simp;omega) ?_;intro v5 w5 ho hg l7;have HF5:=ae (HF4.o.Jx (Ext.alloc _ _) zS.o hg);have Rs:=ae (HC4.o.Jx (Ext.alloc _ _) zS.o hg);have X5:=ae ((xO.o.trans (Ext.alloc _ _)).grown hg (fun j hj=>by rw[Z.o];exact(zS.o.lt j hj).1));obtain⟨a5,n5,p5,rfl,zj⟩:=ho.var;have vU:=ae ho;clear ho hg l7))
        go_roundg (g2-1)
        case measure=>have:=HJ.o;omega
        case rel=>exact⟨j+1,a5,n5,p5,ae (j1 HJ.o),by go_num,rfl,ae (by rw[<-xZ.o];exact vU.o),HF5,Rs,X5⟩
       ·have Cv:m=j:=by have:=HJ.o;omega
        subst Cv;have HFT:=ae (show(aN L (u+1-2)).take m=aN L (u+1-2)from List.take_of_length_le (by rw[EG.o];exact Nat.le_refl _));rw[HFT.o]at O1;have L9:=ae (rT (HF.o.ext R4.o) e7);clear Pa hcB;go_wp2_with fail;refine L9.o.mono ?_;rintro e w4 ⟨vE,rfl,hE,vW⟩;obtain⟨aE0,nE0,cE0,rfl,hnE⟩:=hE.var;have HNE0:=ae (show nE0=k by rw[<-hnE.out,C2.o]);have xO:=ae (R4.o.trans vW);have zS:=ae (O1.o.ext vW);have HC4:=ae (Lu.o.ext vW);have HE4:=ae (hE.mono (base':=w.heap.size+2) SQ);have SU:=xO.o.size;rw[Z.o]at SU;clear hE hnE vW L9
        go_wp2_with (first
         | (go_at_call 71;refine(cv _ _).mono ?_;rintro e w5 ⟨rfl,wX⟩;have Bm:=wX.size;have Rp:=ae (HE4.o.ext wX);have EB:=ae (zS.o.ext wX);have Rs:=ae (HC4.o.ext wX);have AH:=ae (xO.o.trans wX);clear wX)
         | (at_builtin;refine en yr Tryz.B7 rfl Tryz.underlying42 (by decide) rfl _ _ rfl (w.heap.size+2) (.slice aE0 nE0 cE0) L rfl (Rp.o.ext (Ext.alloc _ _)) _ 1 1 [((u:Int),0,1)] rfl (yM.lit yr _ _ _ 1 j0 _ j0 _ j0 e7) (by rw[C2.o];omega) (by simp;omega) ?_;intro v6 w6 ho hg l7;have Iz:=ae (show l9 w6 _ _ _ from bM (EB.o.ext (Ext.alloc _ _)) (Rp.o.ext (Ext.alloc _ _)) (by decide) hg);have Wf:=ae (show o5 w6 _ _ _ from bM (Rs.o.ext (Ext.alloc _ _)) (Rp.o.ext (Ext.alloc _ _)) (by decide) hg);have X6:=ae ((AH.o.trans (Ext.alloc _ _)).grown hg (fun j hj=>by rw[Z.o];exact(Rp.o.lt j hj).1));obtain⟨aE,nE,cE,rfl,FE⟩:=ho.var;have V':=ae ho;clear ho hg l7))
        obtain⟨Q,VJ⟩:=b9 (zJ (u+1) L);have V9:=ae (show L++[((u:Int),0,1)]=Q by rw[VJ];unfold zJ;rw[DK])
        have HEM:=ae (show∀f∈Q,1<=f.1/\f.1<=(u:Int)by
         intro f hf;rw[<-V9.o]at hf
         rcases List.mem_append.1 hf with h|h
         ·have:=xi.o f h;omega
         ·rw[List.mem_singleton]at h;subst h;simp only;omega)
        have Sd:=ae (show Q.length=k+1 by rw[<-V9.o,List.length_append,C2.o];rfl);have UL:=ae (show nE=k+1 by rw[<-FE.o,V9.o,Sd.o]);rw[V9.o]at V';have xh:=ae (IT GV.o xJ.o e7 B0.o);rw[<-VJ]at xh;have DR:=ae (iI xJ.o e7 B0.o L);rw[<-VJ]at DR;have hecap:=V'.o.A2.l8;have hemax:=V'.o.A2.o0;have N4:=ae (show(bd V (aN L (u+1-2))).length<=1000 by rw[cZ];have:=B4.o;omega);obtain⟨FC,VI⟩:=b9 (bd V (aN L (u+1-2)));have HFC1:=ae (show aN L (u+1-2)=FC.map (·.1)by rw[VI];simp[bd,Function.comp_def]);rw[HFC1.o]at Wf;rw[<-VI]at Iz DR N4;have Fp:=ae VI;clear VJ VI DK;go_wp2_with fail
        go_loopg [11,12,99] (k+1) (fun gk cc rr ii wr=>∃(i:Nat) (aC:j6) (nC cC:Nat) (aR:j6) (nR cR:Nat),b7 (gk+i=k+1)/\ii=.int .i64 (i:Int)/\cc=.slice aC nC cC/\rr=.slice aR nR cR/\b7 (o5 wr (w.heap.size+2) (.slice aC nC cC) ((FC++aK V (Q.take i)).map (·.1)))/\b7 (l9 wr (w.heap.size+2) (.slice aR nR cR) ((FC++aK V (Q.take i)).map fun c=>c.2.2.2))/\b7 (uT yr 83 wr (w.heap.size+2) (.slice aE nE cE) Q)/\b7 ((Q.take i).all (F9 V)=true)/\b7 (Ext W wr))
        case atStart=>exact⟨0,_,_,_,_,_,_,ae e7,rfl,rfl,rfl,ae (by simpa[aK]using Wf.o),ae (by simpa[aK]using Iz.o),V',ae rfl,X6⟩
        case round =>
         obtain⟨g3,AT⟩:=b9 gk;subst AT;obtain⟨K,yE⟩:=b9 wr;subst yE;obtain⟨i,aC,nC,cC,aR,nR,cR,HI,rfl,rfl,rfl,BK,LY,HOE,O3,vk⟩:=hrel;have JX:=vk.o.size;rw[Z.o]at JX;by_cases Kb:i<k+1
         ·have XY:i<nE:=by rw[UL.o];exact Kb
          obtain⟨eb,vd,⟨c,x,y⟩,AD,hex,OI⟩:=HOE.o.A2.at XY;subst AD;have e0:K.cell? ⟨eb,vd+i*3,none⟩=some (.int .i64 c):=OI 0 _ rfl;have e1:K.cell? ⟨eb,vd+i*3+1,none⟩=some (.int .i64 x):=OI 1 _ rfl;have e2:K.cell? ⟨eb,vd+i*3+2,none⟩=some (.int .i64 y):=OI 2 _ rfl;have D2:=HEM.o (c,x,y) (List.mem_of_getElem? hex);simp only at D2;obtain⟨t,rfl⟩:∃t:Nat,c=t:=⟨c.toNat,by omega⟩;have PI:t<u+1:=by omega
          obtain⟨vb,O,LF,Er⟩:=Cb.o.at PI;subst LF;obtain⟨z,hz⟩:=b9 (V[t]?.getD 0);rw[<-hz]at Er;obtain⟨p,q',ok,vK⟩:∃p q ok,vD (x,y) (z,1)=((p,q),ok):=⟨_,_,_,rfl⟩;have wI:=ae vK;have Q7:=ae (show -1000000000<=p/\p<=1000000000 by have:=ql (x,y) (z,1);rw[vK]at this;exact this);have Va:=ae (show F9 V ((t:Int),x,y)=ok by unfold F9;simp only;rw[Int.toNat_natCast,<-hz,vK])
          have HTW:=ae (show aK V (Q.take i)++yp (t:Int) (p,q')=aK V (Q.take (i+1))by
           rw[es hex];unfold aK;rw[List.flatMap_append];simp only[List.flatMap_cons,List.flatMap_nil,List.append_nil];unfold eZ;simp only;rw[Int.toNat_natCast,<-hz,vK])
          have HXI:=ae hex;clear OI hex hz vK;go_upto_region 25 with fail;obtain⟨wb,Fv⟩:=b9 (K.alloc (.cells #[.int .i64 (t:Int),.int .i64 x,.int .i64 y] 83));have NL:=ae (show Ext K wb by rw[Fv];exact Ext.alloc _ _);have f0:wb.cell? ⟨K.heap.size,0,none⟩=some (.int .i64 (t:Int)):=by rw[Fv];simp
          have f1:wb.cell? ⟨K.heap.size,1,none⟩=some (.int .i64 x):=by rw[Fv];simp
          have f2:wb.cell? ⟨K.heap.size,2,none⟩=some (.int .i64 y):=by rw[Fv];simp
          have BV:wb.cell? ⟨w.heap.size,1,none⟩=some (.slice (some ⟨vb,O,none⟩) (u+1) cap):=(vk.o.trans NL.o).j9 D9.o;have FX:wb.cell? ⟨vb,O+t,none⟩=some (.int .i64 z):=(vk.o.trans NL.o).j9 Er;rw[<-Fv];have JU:(t:Int)<(u:Int)+1:=by omega
          clear Fv e0 e1 e2 Er;go_upto_region 25 with fail
          go_cut [17,18] (fun sx so wx=>∃g:Nat,sx=.pointer (some ⟨g,0,none⟩)/\so=.bool ok/\b7 (ag wb wx g p q'))
          case first =>
           have k7:Ext wb wb.drew:=Ext.drew wb;have vt:Ext wb (wb.alloc (.cells #[.int .i64 0,.int .i64 0] 62)).drew:=(Ext.alloc _ _).trans (Ext.drew _);have k8:=ae (fun(w':World) (h:Ext wb w')=>(⟨h.j9 f0,h.j9 f1,h.j9 f2,h.j9 BV,h.j9 FX,h⟩:w'.cell? ⟨K.heap.size,0,none⟩=some (.int .i64 (t:Int))/\w'.cell? ⟨K.heap.size,1,none⟩=some (.int .i64 x)/\w'.cell? ⟨K.heap.size,2,none⟩=some (.int .i64 y)/\w'.cell? ⟨w.heap.size,1,none⟩=some (.slice (some ⟨vb,O,none⟩) (u+1) cap)/\w'.cell? ⟨vb,O+t,none⟩=some (.int .i64 z)/\Ext wb w'))
           go_region_held3 (fun w'=>w'.cell? ⟨K.heap.size,0,none⟩=some (.int .i64 (t:Int))/\w'.cell? ⟨K.heap.size,1,none⟩=some (.int .i64 x)/\w'.cell? ⟨K.heap.size,2,none⟩=some (.int .i64 y)/\w'.cell? ⟨w.heap.size,1,none⟩=some (.slice (some ⟨vb,O,none⟩) (u+1) cap)/\w'.cell? ⟨vb,O+t,none⟩=some (.int .i64 z)/\Ext wb w')
            (first
              | with_reducible exact k8.o _ k7
              | with_reducible exact k8.o _ vt
              | with_reducible exact k8.o _ ((k7.setCell (by first|(simp;done)|(simp;omega)) _).setCell (by first|(simp;done)|(simp;omega)) _)
              | with_reducible exact k8.o _ (k7.trans (Ext.alloc _ _))
              | with_reducible exact k8.o _ (p4.put _ _).ext)
            (first
              | (go_at_call 71
                 (with_reducible refine(cv _ _).mono ?_)
                 rintro e w7 ⟨rfl,vN⟩
                 first|(with_reducible have p4:=ag.grow p4 vN)|(with_reducible have p4:=ag.vm vN)|(with_reducible have p4:=ag.vq k7 vN)|skip
                 first|(have Ag:=p4.c0;have Af:=p4.c1;have Bb:=p4.free)|skip
                 have k7:Ext wb w7:=by first|with_reducible exact k7.trans vN|with_reducible exact vt.trans vN|with_reducible exact(k7.trans (Ext.alloc _ _)).trans vN
                 have xu:=k7.size)
              | (go_at_call 138
                 (with_reducible refine(kF _ _ _ _ _).mono ?_)
                 rw[wI.o];rintro e w8 ⟨rfl,wC⟩
                 first|(with_reducible have p4:=ag.grow p4 wC)|(with_reducible have p4:=ag.vm wC)|(with_reducible have p4:=ag.vq k7 wC)|skip
                 first|(have Ag:=p4.c0;have Af:=p4.c1;have Bb:=p4.free)|skip
                 have k7:Ext wb w8:=by first|with_reducible exact k7.trans wC|with_reducible exact vt.trans wC|with_reducible exact(k7.trans (Ext.alloc _ _)).trans wC
                 have xu:=k7.size)
              | fail)
           all_goals(go_wp2_with fail;go_meet;first|exact⟨_,rfl,rfl,ae (p4.put _ _)⟩|exact⟨_,rfl,rfl,ae (ag.new k7 _ _)⟩|exact⟨_,rfl,rfl,ae (ag.new' k7 _ _ e8)⟩)
          obtain⟨g,rfl,rfl,HB⟩:=hcut;have XC:=ae ((vk.o.trans NL.o).trans HB.o.ext);have Le:=ae ((BK.o.ext NL.o).ext HB.o.ext);have ZE:=ae ((LY.o.ext NL.o).ext HB.o.ext);have ZH:=ae ((HOE.o.ext NL.o).ext HB.o.ext);have DM:=HB.o.ext.j9 f0;have Di:=XC.o.size;rw[Z.o]at Di;have HGE:=ae (show K.heap.size<g by have:=HB.o.ge;have:=World.block_lt_of_cell? _ _ f0;simp only at this;omega);clear f0 f1 f2 BV FX JU;cases ok
          ·have HG:=ae (show wu (q:Int) V L=false from by
            rw[xh.o,List.all_eq_false];exact⟨_,List.mem_of_getElem? HXI.o,by rw[Va.o];simp⟩)
           have z7:=wi.o _ XC.o;have xA:=vz.ym z7;have xm:=vz.yk z7;have yI:=vz.yj z7;have CT:=vz.y8 z7;clear z7;go_wp2_with fail;refine bodyPost_ret (v:=.tuple #[.agg #[.slice none 0 0,.slice none 0 0,.slice none 0 0],.bool false]) (by simp[results,Tryz.results80,go_sem,xA,xm,yI]) rfl (xD.o _ XC.o HG.o _ rfl)
          ·have Ur:=ae (show(Q.take (i+1)).all (F9 V)=true by rw[es HXI.o,List.all_append,O3.o];simp[Va.o]);have yw:=ae (show((FC++aK V (Q.take i)).map (·.1)).length<=3000000 by rw[List.length_map,List.length_append,eo,List.length_take];have:=N4.o;have:=Sd.o;omega);have xE:=ae (show((FC++aK V (Q.take i)).map fun c=>c.2.2.2).length<=3000000 by rw[List.length_map,List.length_append,eo,List.length_take];have:=N4.o;have:=Sd.o;omega);have LV:=ae (show(FC++aK V (Q.take i)).map (·.1)++[(t:Int),(t:Int)]=(FC++aK V (Q.take (i+1))).map (·.1)by rw[<-HTW.o];exact pw _ FC _ (yp (t:Int) (p,q')));have R9:=ae (show((FC++aK V (Q.take i)).map fun c=>c.2.2.2)++[(p,q'),(-p,q')]=(FC++aK V (Q.take (i+1))).map fun c=>c.2.2.2 by rw[<-HTW.o];exact pw _ FC _ (yp (t:Int) (p,q')));have Ly:=ae (HB.o.cell)
           go_wp2_with (first
            | (at_builtin;go_loud (refine bv rfl _ _ rfl (w.heap.size+2) (.slice aC nC cC) _ rfl (Le.o.ext (Ext.alloc _ _)) _ 2 _ [(t:Int),(t:Int)] rfl (Ints.Wv [(t:Int),(t:Int)] _ j0 j0 j0 e8) (Nat.le_trans (Nat.add_le_add_right yw.o 2) (by decide)) (by simp;omega) ?_;intro v9 w9 ho hg l7;have VY:=ae (ZE.o.St (Ext.alloc _ _) Le.o hg);have N6:=ae (show uT yr 83 w9 _ _ _ from ZH.o.KA (Ext.alloc _ _) Le.o (by decide) hg);have X9:=ae ((XC.o.trans (Ext.alloc _ _)).grown hg (fun j hj=>by rw[Z.o];exact(Le.o.lt j hj).1));have Ih:=ae (show w9.heap[g]?=_ from(hg.block g (by have:=HB.o.lt;simp;omega) (an Le.o Ly.o (by decide))).trans ((bU _ _ _ HB.o.lt).trans Ly.o));obtain⟨a9,n9,p9,rfl,LZ⟩:=ho.var;have HC9:=ae ho;clear ho hg l7)))
           have At:w9.cell? ⟨g,0,none⟩=some (.int .i64 p):=(ah Ih.o).1;have xL:w9.cell? ⟨g,1,none⟩=some (.int .i64 q'):=(ah Ih.o).2.1;have Oz:=Q7.o;have UM:=ae (show some g≠(Value.slice aR nR cR).ownBlock from fun e=>by have:=(LY.o.lt g e.symm).2;have:=HGE.o;omega);have yx:Ext W w9:=X9.o;have k7:Ext w9 w9.drew:=Ext.drew w9;have WS:=X9.o.size;rw[Z.o]at WS;have k8:=ae (fun(w':World) (h:Ext W w') (h0:w'.cell? ⟨g,0,none⟩=some (.int .i64 p)) (h1:w'.cell? ⟨g,1,none⟩=some (.int .i64 q'))=>(⟨h0,h1,h⟩:w'.cell? ⟨g,0,none⟩=some (.int .i64 p)/\w'.cell? ⟨g,1,none⟩=some (.int .i64 q')/\Ext W w'));clear DM
           go_region_held3 (fun w'=>w'.cell? ⟨g,0,none⟩=some (.int .i64 p)/\w'.cell? ⟨g,1,none⟩=some (.int .i64 q')/\Ext W w')
            (first
              | with_reducible exact k8.o _ (yx.trans k7) (k7.j9 At) (k7.j9 xL)
              | with_reducible exact k8.o _ (yx.trans (k7.trans (Ext.alloc _ _))) ((k7.trans (Ext.alloc _ _)).j9 At) ((k7.trans (Ext.alloc _ _)).j9 xL)
              | with_reducible exact k8.o _ He TK RQ)
            (first
              | (go_at_call 74
                 (with_reducible refine(dS _ _ _ e7 e7).mono ?_)
                 rintro e DW ⟨rfl,DZ⟩;have k7:Ext w9 DW:=k7.trans DZ
                 have PR:=k7.size)
              | (refine bW _ j0 ?_
                 refine cU _ _ j0 (w.heap.size+2) (.slice aR nR cR) _ j0 (VY.o.ext (k7.trans (Ext.alloc _ _))) _ 2 2 [(p,q'),(-p,q')] j0 (Rats.two _ _ _ _ _ _ j0) (Nat.le_trans (Nat.add_le_add_right xE.o 2) (by decide)) (by simp;omega) ?_;intro v11 DB ho hg l7;have TK:=hg.cell ((k7.trans (Ext.alloc _ _)).j9 At) UM.o;have RQ:=hg.cell ((k7.trans (Ext.alloc _ _)).j9 xL) UM.o;have HC11:=ae (HC9.o.Jx (k7.trans (Ext.alloc _ _)) VY.o hg);have HE11:=ae (N6.o.Kz (k7.trans (Ext.alloc _ _)) VY.o (by decide) hg);have He:Ext W DB:=(yx.trans (k7.trans (Ext.alloc _ _))).grown hg (fun j hj=>by rw[Z.o];exact(VY.o.lt j hj).1);obtain⟨Zd,n11,p11,rfl,HN11⟩:=ho.var;have Zz:=ae ho
                 clear ho hg l7)
              | fail)
           have X11:=ae He;clear yx He TK RQ;go_wp2_with fail
           go_roundg (g3-1)
           case measure=>have:=HI.o;omega
           case rel=>exact⟨i+1,a9,n9,p9,Zd,n11,p11,ae (j1 HI.o),by go_num,rfl,rfl,ae (by rw[<-LV.o];exact HC11.o),ae (by rw[<-R9.o];exact Zz.o),HE11,Ur,X11⟩
         ·have X':i=k+1:=by have:=HI.o;omega
          subst X';have LR:=ae (show Q.take (k+1)=Q from List.take_of_length_le (by rw[Sd.o];exact Nat.le_refl _));rw[LR.o]at BK LY O3;have Ge:=ae (show wu (q:Int) V L=true by rw[xh.o,O3.o]);obtain⟨J,RW⟩:=b9 ((FC++aK V Q).map (·.1));have Gk:=ae (show((FC++aK V Q).map fun c=>c.2.2.2)=BF V L by rw[DR.o];rfl);have Ie:=ae (show J.length=m+2*(k+1)by rw[RW,List.length_map,List.length_append,eo,Sd.o,Fp.o,cZ,EG.o])
          have La:=ae (show ye m J.length q (xz q J)=(List.range q).map (yY (cK V L) q)by
           have:=MA V (aN L (u+1-2)) Q q;rw[EG.o,<-Fp.o,<-RW,DR.o]at this
           exact this)
          have U0:=ae (show List.replicate m 1++List.replicate (2*(k+1)) 0=yY (cK V L) q q by
           have:=pg V (aN L (u+1-2)) Q q;rw[EG.o,<-Fp.o,DR.o,Sd.o]at this
           exact this)
          have HCB:=ae (show∀r:Nat,J[r]?.getD 0<=9223372036854775807 by
           intro r;by_cases hr:r<J.length
           ·rw[List.getElem?_eq_getElem hr];have hm:=List.getElem_mem hr;simp only[RW]at hm;obtain⟨c,hc,hce⟩:=List.mem_map.1 hm;have zC:=oF xJ.o e7 (fun f hf=>by have:=xi.o f hf;omega) c (by rw[<-DR.o];exact hc);simp only[Option.getD_some];have e:J[r]=c.1:=by simp only[RW];exact hce.symm
            rw[e];omega
           ·rw[List.getElem?_eq_none e7];simp)
          rw[<-RW]at BK;rw[Gk.o]at LY;have UN:=ae (show nC=m+2*(k+1)by obtain⟨_,_,he,_⟩:=BK.o.form;simp only[Value.slice.injEq]at he;rw[he.2.1,Ie.o]);have UT:=ae (nm (w:=K) q h5 BK.o.ints HCB.o (by rw[UN.o];omega));have YC:=vk.o.j9 D8.o;have Xw:¬((k:Int)+1<(nE:Int)):=by have:=UL.o;omega
          clear RW;go_wp2_with fail;refine UT.o.mono ?_;rintro e Bp ⟨⟨vA,rfl,vs,Xo,EX⟩,yH⟩;obtain⟨aA,I,cA,rfl,hna⟩:=Xo.var;have hnq:I=q:=by rw[<-hna.out,EX.len,kJ]
          subst hnq;have H5:=ae (show zd Bp (w.heap.size+2) aA I cA vs (xz I J)from⟨Xo.mono' JX,⟨EX.len,fun i hi=>(EX.row i hi).mono JX,EX.apart⟩⟩);have Ec:=ae (LY.o.ext yH);have Gc:=ae (vk.o.trans yH);have hacap:=H5.o.cap.1;have hamax:=H5.o.cap.2;clear Xo EX hna yH YC UT;go_wp2_with fail
          go_loopg [139] I (fun gk ii wr=>∃i:Nat,b7 (gk+i=I)/\ii=.int .i64 (i:Int)/\b7 (zd wr (w.heap.size+2) aA I cA vs (ye m J.length i (xz I J)))/\b7 (l9 wr (w.heap.size+2) (.slice aR nR cR) (BF V L))/\b7 (Ext W wr))
          case atStart=>exact⟨0,ae e7,rfl,ae (by rw[uc];exact H5.o),Ec,Gc⟩
          case round =>
           obtain⟨g4,Kw⟩:=b9 gk;subst Kw;obtain⟨wr4,Ff⟩:=b9 wr;subst Ff;obtain⟨i,Z6,rfl,BL,UA,QV⟩:=hrel;have Ou:=QV.o.size;rw[Z.o]at Ou;by_cases wq:i<I
           ·obtain⟨G,rfl,_,Hl,_⟩:=BL.o.outer e7;have Ar:i<(xz I J).length:=by rw[kJ];exact wq
            have CS:((ye m J.length i (xz I J))[i]?.getD []).length=m+2*(k+1):=by rw[rx Ar,kK wq,fd,Ie.o]
            obtain⟨gr,cr,SJ,hcr,J7,hne,CY,hgrl,hncr,hcrm⟩:=BL.o.row wq CS e7;have Um:=ae SJ;clear SJ J7 CS;go_wp2_with fail
            go_loopg [22] (m+2*(k+1)) (fun gk jj wr=>∃t:Nat,b7 (gk+t=m+2*(k+1))/\jj=.int .i64 ((m+1+2*t:Nat):Int)/\b7 (zd wr (w.heap.size+2) (some ⟨G,0,none⟩) I cA vs ((ye m J.length i (xz I J)).set i (cw m (m+1+2*t) (xd J i))))/\b7 (l9 wr (w.heap.size+2) (.slice aR nR cR) (BF V L))/\b7 (Ext W wr))
            case atStart=>exact⟨0,ae e7,by simp,ae (by
             rw[qP];have e:(ye m J.length i (xz I J)).set i (xd J i)=ye m J.length i (xz I J):=by
              have h0:=rx (m:=m) (N:=J.length) Ar;rw[kK wq]at h0
              apply List.ext_getElem e8
              intro r h1 h2;rw[List.getElem_set]
              split
              ·next er=>subst er;rw[List.getElem?_eq_getElem h2]at h0;simpa using h0.symm
              ·rfl
             rw[e];exact BL.o),UA,QV⟩
            case round =>
             obtain⟨g5,Qq⟩:=b9 gk;subst Qq;obtain⟨Oa,Kv⟩:=b9 wr;subst Kv;obtain⟨t,LS,rfl,AU,Q4,Hq⟩:=hrel;have SS:=Hq.o.size;rw[Z.o]at SS;by_cases yW:m+1+2*t<m+2*(k+1)
             ·obtain⟨j,hj⟩:=b9 (m+1+2*t);have GB:((ye m J.length i (xz I J)).set i (cw m (m+1+2*t) (xd J i)))[i]?.getD []=cw m (m+1+2*t) (xd J i):=by
               rw[List.getElem?_set_self (by rw[Jq];exact Ar)];rfl
              obtain⟨gr',cr',SI,Yu,S9,Xy,YE,Tu,S',TC⟩:=AU.o.row (n:=m+2*(k+1)) wq (by rw[GB,ue,fd,Ie.o]) e7;have xH:=Um.o.symm.trans SI;simp only[Value.slice.injEq,Option.some.injEq,Addr.mk.injEq,and_true,true_and]at xH;have J6:=S9;rw[<-xH.1,<-xH.2,GB]at J6;have hcell:=J6.EL.2.2.2 (m+1+2*t) yW;have CX:=J6.EL.2.2.1 (m+1+2*t);rw[Jo (by rw[fd,Ie.o];exact yW),if_neg e7]at hcell;obtain⟨x,hx⟩:=b9 ((xd J i)[m+1+2*t]?.getD 0);have ML:=MC J i (m+1+2*t);rw[<-hx]at hcell ML;have hwx:IntKind.i64.wrap (-x)=-x:=by rw[IntKind.wrap_i64];omega
              have Gn:=ae (show zd (Oa.setCell ⟨gr,m+1+2*t,none⟩ (.int .i64 (-x))) (w.heap.size+2) (some ⟨G,0,none⟩) I cA vs ((ye m J.length i (xz I J)).set i (cw m (m+1+2*(t+1)) (xd J i)))by
               have:=AU.o.Ck wq Um.o (m+1+2*t) (-x);rw[GB,hx,sN (by rw[fd,Ie.o];exact yW),List.set_set]at this
               rw[hx];exact this)
              have Uz:=ae (show l9 (Oa.setCell ⟨gr,m+1+2*t,none⟩ (.int .i64 (-x))) (w.heap.size+2) (.slice aR nR cR) (BF V L)from
               Q4.o.keep fun b hb=>heap_setCell_other _ _ _ _ fun e=>aU (by decide) Q4.o J6 b hb (by rw[e];rfl))
              have Uk:=ae (Hq.o.store (b:=gr) (m+1+2*t) (by rw[Z.o];exact CY) (.int .i64 (-x)));clear S9 J6 GB SI Yu Xy YE Tu S' TC xH hx;rw[<-hj]at hcell CX Gn Uz Uk yW;have Z2:=ae hj;rw[<-hj];clear hj;go_wp2_with fail
              go_roundg (g5-1)
              case measure=>have:=LS.o;have:=Z2.o;omega
              case rel=>exact⟨t+1,ae (by have:=LS.o;have:=Z2.o;omega),by have:=Z2.o;go_num,Gn,Uz,Uk⟩
             ·have hnlt2:¬(((m+1+2*t:Nat):Int)<((m+2*(k+1):Nat):Int)):=by omega
              have Li:=ae (show zd Oa (w.heap.size+2) (some ⟨G,0,none⟩) I cA vs (ye m J.length (i+1) (xz I J))by
               have h1:=ua (m:=m) (N:=J.length) Ar;rw[kK wq]at h1;rw[<-h1];have h2:=ud (m:=m) (j:=m+1+2*t) (r:=xd J i) (by rw[fd,Ie.o];omega);rw[fd]at h2
               rw[<-h2];exact AU.o)
              obtain⟨j,hj⟩:=b9 (m+1+2*t);obtain⟨N,hN⟩:=b9 (m+2*(k+1));go_wp2_with fail
              go_roundg (g4-1)
              case measure=>have:=Z6.o;omega
              case rel=>exact⟨i+1,ae (j1 Z6.o),by go_num,Li,Q4,Hq⟩
           ·have XZ:I=i:=by have:=Z6.o;omega
            subst XZ;rw[La.o]at BL;have Ri:=ae (mN Ge.o);obtain⟨d,hd⟩:=b9 (2*(k+1));have Tc:(nC:Int)-(m:Int)=(d:Int):=by have:=UN.o;omega
            have HD:=ae hd;have HT1:=ae (jL (w:=wr4) m 1 e7);have zO:=ae (fun(Ij:World)=>jL (w:=Ij) d 0 e7);have hnc0:(0:Int)<=(nC:Int)-(m:Int):=by omega
            clear hd;go_wp2_with fail;refine HT1.o.mono ?_;rintro e Ij ⟨⟨v13,rfl,PW⟩,JL⟩;obtain⟨LO,n13,c13,rfl,Tf⟩:=PW.var;have zy:=ae PW;have Ul:=ae JL;have H4:=ae Tf.out;clear PW JL Tf HT1;go_wp2_with fail;rw[show wrap64 (d:Int)=(d:Int)by unfold wrap64;have:=HD.o;omega];refine(zO.o Ij).mono ?_;rintro e Pl ⟨⟨v14,rfl,PV⟩,SG⟩;obtain⟨a14,n14,c14,rfl,Te⟩:=PV.var;have ZI:=ae PV;have QX:=ae SG;have ZM:=ae Te.out;have NY:=ae (show(List.replicate m (1:Int)).length+n14<=1099511627776 by rw[<-ZM.o,List.length_replicate,List.length_replicate];have:=HD.o;omega);have hs13:=Ul.o.size;have hs14:=QX.o.size;clear PV SG Te zO
            go_wp2_with (first
             | (at_builtin;go_loud (refine bv rfl _ _ rfl wr4.heap.size (.slice LO n13 c13) _ rfl (zy.o.ext QX.o) _ n14 _ _ rfl ZI.o.ints NY.o e7 ?_;intro v15 zU ho hg l7;have JK:=((Ul.o.trans QX.o).grown hg (fun j hj=>(zy.o.lt j hj).1));obtain⟨QL,n15,c15,rfl,UQ⟩:=ho.var;have BC:=ae ho;have QW:=ae JK;clear ho hg l7 JK)))
            obtain⟨lr,AW⟩:=b9 (List.replicate m (1:Int)++List.replicate d 0);have ZX:=ae (show lr=yY (cK V L) I I by rw[AW,HD.o];exact U0.o);rw[<-AW]at BC;have Nq:Ext W zU:=QV.o.trans QW.o;have E:Hn W zU (w.heap.size+2) zU.heap.size (.slice aA I cA) vs (vs++[.slice QL n15 c15]) ((List.range I).map (yY (cK V L) I)++[lr]) (.slice aR nR cR) (BF V L) :=
             Hn.start BL.o QW.o BC.o Ou (UA.o.ext QW.o) Nq
            have SV:=Nq.size;rw[Z.o]at SV;have QY:=ae (show vs.length<=1099511627775 by rw[BL.o.yy];omega);have K4:=ae (fun(w16:World)=>jL (w:=w16) I 0 e7);have k8:=ae (fun(w':World) (h:Ext W w')=>(h.j9 D8.o:w'.cell? ⟨w.heap.size,0,none⟩=some (.int .i64 (I:Int))))
            have Z0:=ae (fun(w':World) (h:Ext W w') (a b c:Value)=>(show(((w'.setCell ⟨w.heap.size+1,0,none⟩ a).setCell ⟨w.heap.size+1,1,none⟩ b).setCell ⟨w.heap.size+1,2,none⟩ c).cell? ⟨w.heap.size,0,none⟩=some (.int .i64 (I:Int))from
             (World.cell?_of_block (a:=⟨w.heap.size,0,none⟩) (by
               show(((w'.setCell ⟨w.heap.size+1,0,none⟩ a).setCell ⟨w.heap.size+1,1,none⟩ b).setCell ⟨w.heap.size+1,2,none⟩ c).heap[w.heap.size]?=w'.heap[w.heap.size]?
               rw[heap_setCell_other _ _ _ _ e8,heap_setCell_other _ _ _ _ e8,heap_setCell_other _ _ _ _ e8])).trans (k8.o w' h)))
            have O7:=ae (fun(n:Nat) (hn:zU.heap.size<=n)=>(show some n≠(Value.slice aA I cA).ownBlock from fun e=>by have:=(E.out.lt n e.symm).2;omega));have yN:=ae (show W.heap.size<=w.heap.size+2 by rw[Z.o];exact Nat.le_refl _);have Hp:=ae (show W.heap.size<=zU.heap.size from Nq.size);have e0:Ext zU zU.drew:=Ext.drew _;have e1:Ext zU (zU.alloc (.cells #[.slice QL n15 c15] 30)).drew:=(Ext.alloc _ _).trans (Ext.drew _);have e2:Ext zU (zU.alloc (.cells #[.int .i64 1] 3)).drew:=(Ext.alloc _ _).trans (Ext.drew _);have e12:Ext zU ((zU.alloc (.cells #[.slice QL n15 c15] 30)).alloc (.cells #[.int .i64 1] 3)).drew:=((Ext.alloc _ _).trans (Ext.alloc _ _)).trans (Ext.drew _);have e21:Ext zU ((zU.alloc (.cells #[.int .i64 1] 3)).alloc (.cells #[.slice QL n15 c15] 30)).drew:=((Ext.alloc _ _).trans (Ext.alloc _ _)).trans (Ext.drew _);have b12:((zU.alloc (.cells #[.slice QL n15 c15] 30)).alloc (.cells #[.int .i64 1] 3)).drew.cell? ⟨zU.heap.size+1,0,none⟩=some (.int .i64 1):=by simp
            have b21:((zU.alloc (.cells #[.int .i64 1] 3)).alloc (.cells #[.slice QL n15 c15] 30)).drew.cell? ⟨zU.heap.size,0,none⟩=some (.int .i64 1):=by simp
            clear AW
            go_region_held3 (fun w'=>w'.cell? ⟨w.heap.size,0,none⟩=some (.int .i64 (I:Int)))
             (first
               | with_reducible exact k8.o _ (E.ext.trans e0)
               | with_reducible exact k8.o _ (E.ext.trans e1)
               | with_reducible exact k8.o _ (E.ext.trans e2)
               | with_reducible exact k8.o _ (E.ext.trans e12)
               | with_reducible exact k8.o _ (E.ext.trans e21)
               | with_reducible exact k8.o _ E.ext
               | with_reducible exact k8.o _ (E.ext.trans (Ext.alloc _ _))
               | with_reducible exact Z0.o _ E.ext _ _ _)
             (first
               | (go_at_call 126
                  (with_reducible refine(K4.o _).mono ?_)
                  rintro e w17 ⟨⟨vT,rfl,Xs⟩,SE⟩;obtain⟨aT,nT,cT,rfl,hnT⟩:=Xs.var;have Vp:=E.hz;have HT:=ae (Xs.mono (base':=zU.heap.size) (by first|exact Vp|(simp;omega)))
                  first
                   | (with_reducible have E:=E.more SE)
                   | (with_reducible have E:=E.more ((Ext.alloc _ _).trans SE))
                  first
                   | (with_reducible have wU:=SE.j9 wU)
                   | (have wU:w17.cell? ⟨wA.heap.size,0,none⟩=some (.int .i64 1):=SE.j9 (by simp;done))
                   | skip
                  have hs17:=E.ext.size
                  clear Xs hnT SE)
               | (refine bW _ j0 ?_
                  refine eE _ _ j0 (w.heap.size+2) (.slice aA I cA) vs j0 (by with_reducible exact E.out.ext e1) _ _ 1 j0 (by simp;rfl) j0 QY.o (by simp;omega) ?_;intro v16 wA ho hg l7;have E:=E.push e1 hg ho yN.o;obtain⟨a16,n16,c16,rfl,UP⟩:=ho.var;have S0:=E.ext.size
                  clear ho hg l7)
               | (refine bW _ j0 ?_
                  refine eE _ _ j0 (w.heap.size+2) (.slice aA I cA) vs j0 (by with_reducible exact E.out.ext e12) _ _ 1 j0 (by simp;rfl) j0 QY.o (by simp;omega) ?_;intro v16 wA ho hg l7;have wU:=hg.cell b12 (O7.o _ (Nat.le_succ _));have E:=E.push e12 hg ho yN.o;obtain⟨a16,n16,c16,rfl,UP⟩:=ho.var;have S0:=E.ext.size
                  clear ho hg l7)
               | (refine bW _ j0 ?_
                  refine eE _ _ j0 (w.heap.size+2) (.slice aA I cA) vs j0 (by with_reducible exact E.out.ext e21) _ _ 1 j0 (by simp;rfl) j0 QY.o (by simp;omega) ?_;intro v16 wA ho hg l7;have wU:=hg.cell b21 (O7.o _ (Nat.le_refl _));have E:=E.push e21 hg ho yN.o;obtain⟨a16,n16,c16,rfl,UP⟩:=ho.var;have S0:=E.ext.size
                  clear ho hg l7)
               | (refine bW _ j0 ?_
                  refine cD _ _ j0 zU.heap.size (.slice aT nT cT) (List.replicate I 0) j0 (by with_reducible exact HT.o) _ 1 _ [(1:Int)] j0 (Ints.Pv wU) (by simp;omega) E.hz ?_;intro v18 wZ ho hg l7;have E:=E.OT (Ext.refl _) HT.o hg Hp.o;obtain⟨a18,n18,c18,rfl,ZL⟩:=ho.var;have HZ:=ae ho;have Xc:=E.ext.size;have DL:=k8.o _ E.ext;have xA:=vz.ym (wi.o _ E.ext);have xm:=vz.yk (wi.o _ E.ext);have yI:=vz.yj (wi.o _ E.ext);have CT:=vz.y8 (wi.o _ E.ext)
                  clear ho hg l7)
               | (refine bW _ j0 ?_
                  refine cD _ _ j0 zU.heap.size (.slice aT nT cT) (List.replicate I 0) j0 (HT.o.ext (Ext.alloc _ _)) _ 1 _ [(1:Int)] j0 (Ints.zp w17 _ _ _ j0) (by simp;omega) (by have:=E.hz;simp;omega) ?_;intro v18 wZ ho hg l7;have E:=E.OT (Ext.alloc _ _) (HT.o.ext (Ext.alloc _ _)) hg Hp.o;obtain⟨a18,n18,c18,rfl,ZL⟩:=ho.var;have HZ:=ae ho;have Xc:=E.ext.size;have DL:=k8.o _ E.ext;have xA:=vz.ym (wi.o _ E.ext);have xm:=vz.yk (wi.o _ E.ext);have yI:=vz.yj (wi.o _ E.ext);have CT:=vz.y8 (wi.o _ E.ext)
                  clear ho hg l7)
               | fail)
            all_goals
             have HS:=ae E;clear E Nq e0 e1 e2 e12 e21 b12 b21 DL
             try clear wU
             go_wp2_with fail;refine bodyPost_ret (v:=.tuple #[.agg #[.slice a16 n16 c16,.slice a18 n18 c18,.slice aR nR cR],.bool true]) (by simp[results,Tryz.results80,go_sem,xA,xm,yI]) rfl ⟨⟨_,_,_,_,by rw[Ge.o],(((((vv.on HS.o.out).set e8 _).set e8 _).set e8 _).here).mono' e7,?_,?_,?_,?_⟩,?_⟩
             ·rw[Ri.o.1,Int.toNat_natCast];have hA:(List.range I).map (yY (cK V L) I)++[lr]=stA I V L:=by unfold stA;rw[List.range_succ,List.map_append,ZX.o];rfl
              rw[<-hA];exact(((((bu.on HS.o.rows).set e8 _).set e8 _).set e8 _).here).mono' e7
             ·rw[Ri.o.2.1,Int.toNat_natCast,<-um];exact(((((o5.on HZ.o).set (by simp;omega) _).set (by simp;omega) _).set (by simp;omega) _).here).mono e7
             ·rw[Ri.o.2.2];exact(((((l9.on HS.o.c).set e8 _).set e8 _).set e8 _).here).mono e7
             ·exact fun i k hi hk Bn=>by
               have h1:=HS.o.top i k (by rw[<-HS.o.rows.len];exact hi) hk;have h2:=(HZ.o.lt k Bn).1;omega
             ·exact(((uV.o.trans HS.o.ext).store 0 e7 _).store 1 e7 _).store 2 e7 _
theorem rH(e:Nat->j7->j7->j7)(M:j5):∀n,(runM e M n).2<=n
 | 0=>Nat.le_refl _
 | n+1=>by
   have ih:=rH e M n;unfold runM yQ
   split
   ·show(runM e M n).2+1<=n+1;omega
   ·omega
theorem Je{p:Int}(h:1<=p)(l:j7):eC p l<=p:=by
 unfold eC
 split
 ·have:=rH bJ (l.map (ys p.toNat)) p.toNat;omega
 ·omega
def bQ(q:Nat)(V:j7)(L:j2):yu:=be am (stA q V L) (Gs q) (BF V L)
def xq(fr:j7)(r:yu)(k:Nat):j2:=((List.range k).filter fun j=>decide (0<(r.X[j]?.getD (0,0)).1)).map fun j=>(fr[j]?.getD 0,-r.value.1,r.value.2)
theorem nD(E:j7)(r:yu):xq E r 0=[]:=rfl
theorem io(E:j7)(r:yu)(k:Nat):xq E r (k+1)=xq E r k++if 0<(r.X[k]?.getD (0,0)).1 then [(E[k]?.getD 0,-r.value.1,r.value.2)] else []:=by
 unfold xq;rw[List.range_succ,List.filter_append,List.map_append]
 congr 1
 by_cases h:0<(r.X[k]?.getD (0,0)).1
 ·simp[h]
 ·simp[h]
def Vo(q:Nat)(r:yu):j4:=(r.Y.take q).map uU
def wM(V:j7)(L:j2):j7:=aN L (V.length-2)
def de(V:j7)(L:j2)(r:yu):j2:=L++xq (wM V L) r (wM V L).length
def dX(p:Int)(V:j7)(L:j2):Bool:=decide (eC p (((V.length:Int)-1)::L.map (·.1))=p)
structure AE  where
 ok:Bool
 pt:j4
 st:j2
 rounds:Nat
def AE.no:AE:=⟨false,[],[],0⟩
def Ay(p:Int)(V:j7):Nat->j2->Nat->AE
 | 0,_,_=>AE.no
 | f+1,L,k =>
   if wu p V L=true/\(bQ p.toNat V L).status=1 then
    (if dX p V (de V L (bQ p.toNat V L))=true then⟨true,Vo p.toNat (bQ p.toNat V L),de V L (bQ p.toNat V L),k+1⟩
    else Ay p V f (de V L (bQ p.toNat V L)) (k+1))
   else AE.no
def zr(p:Int)(V:j7):AE :=
 if aH p V=true then(if p=1 then⟨true,[(bI p V,1)],[],0⟩ else Ay p V ((wM V []).length+1) [] 0) else AE.no
theorem qo(X:j4)(row:Nat->Int)(m:Nat)(h0:∀j,m<=j->row j=0)(hn:∀j,j<m->row j=1)(hx:∀j,j<m->val (X[j]?.getD (0,0))<=0):∀N,r7 (fun j=>((row j:Int):Rat)*val (X[j]?.getD (0,0))) N<=0
 | 0=>by simp[r7]
 | N+1=>by
   have ih:=qo X row m h0 hn hx N;simp only[r7];by_cases h:N<m
   ·have:=hx N h;rw[hn N h];have e:((1:Int):Rat)=1:=by exact_mod_cast rfl
    rw[e]
    grind
   ·rw[h0 N e7];have e:((0:Int):Rat)=0:=by exact_mod_cast rfl
    rw[e]
    grind
theorem tm(l:j7)(j:Nat):r8 (ar l) j=((l[j]?.getD 0:Int):Rat):=by
 unfold r8;by_cases h:j<l.length
 ·rw[jH h,ed]
 ·rw[List.getElem?_eq_none (by rw[et];omega),List.getElem?_eq_none e7]
  show val (0,0)=((0:Int):Rat);unfold val;grind
theorem gF{p:Int}(h:aH p V=true):1<=V.length/\V.length<=32/\p=(p.toNat:Int)/\1<=p.toNat/\p.toNat<=5/\∀y∈V,-500<=y/\y<=500:=by
 obtain⟨n,rfl,h1,h5,hl,_,E⟩:=bF h;have e:(n:Int).toNat=n:=by omega
 rw[e,hl];refine⟨?_,?_,rfl,h1,h5,E⟩
 ·exact(cW n h5).1
 ·exact(cW n h5).2
theorem gu{p:Int}(h:wu p V L=true):aH p V=true/\2<=p/\A3 L ((V.length:Int)-2) L.length=true/\0<(wM V L).length:=by
 obtain⟨h1,_⟩:=both h;obtain⟨h2,h3⟩:=both h1;obtain⟨h4,h5⟩:=both h3;obtain⟨h6,h7⟩:=both h5;exact⟨h2,of_decide_eq_true h4,h6,of_decide_eq_true h7⟩
theorem uh{p:Int}(h:wu p V L=true)(hs:(bQ p.toNat V L).status=1):xq (wM V L) (bQ p.toNat V L) (wM V L).length≠[]:=by
 intro hn;obtain⟨hg,_,_,_⟩:=gu h;obtain⟨h1,_,_,_,_,I⟩:=gF hg;obtain⟨v1,_,v3,_⟩:=fq hs;obtain⟨r,hr⟩:=b9 (bQ p.toNat V L);have G:aG am (stA p.toNat V L) (Gs p.toNat) (BF V L) r=true:=by rw[hr];exact v3
 rw[<-hr]at hs hn;unfold aG at G;rw[if_pos hs]at G;obtain⟨f1,_⟩:=both G;unfold dF at f1;obtain⟨_,f2⟩:=both f1;obtain⟨_,f3⟩:=both f2;unfold dd at f3;have f4:=List.all_eq_true.1 f3 p.toNat (List.mem_range.2 (by simp[stA]));have f5:=of_decide_eq_true f4;have e1:(stA p.toNat V L)[p.toNat]?.getD []=List.replicate (wM V L).length 1++List.replicate (2*(zJ V.length L).length) 0:=by
  unfold wM;rw[pg V (aN L (V.length-2)) (zJ V.length L) p.toNat,iI rfl h1 I L];unfold stA;rw[List.getElem?_map,List.getElem?_range e7,Option.map_some,Option.getD_some]
 have e2:(Gs p.toNat)[p.toNat]?.getD 0=1:=by
  unfold Gs;rw[List.getElem?_map,List.getElem?_range e7,Option.map_some,Option.getD_some];rw[show decide (p.toNat=p.toNat)=true from decide_eq_true rfl];rfl
 rw[e1,e2]at f5;obtain⟨_,_,_,g4⟩:=dz f5;have hx:∀j,j<(wM V L).length->val (r.X[j]?.getD (0,0))<=0:=by
  intro j hj;obtain⟨_,_,g3,_⟩:=dz f5;have hv:=(g3 j (by rw[et,List.length_append,List.length_replicate];omega)).2;have PX:¬0<(r.X[j]?.getD (0,0)).1:=by
   intro hp;unfold xq at hn;rw[List.map_eq_nil_iff,List.filter_eq_nil_iff]at hn;exact hn j (List.mem_range.2 hj) (decide_eq_true hp)
  have Aa:=(fu (p:=uU (r.X[j]?.getD (0,0))) (by rw[dh];exact hv)).1 (by show 0<=-(r.X[j]?.getD (0,0)).1;omega);rw[fg]at Aa
  grind
 have hle:=qo r.X (fun j=>(List.replicate (wM V L).length (1:Int)++List.replicate (2*(zJ V.length L).length) 0)[j]?.getD 0) (wM V L).length (fun j hj=>by
  show(List.replicate (wM V L).length (1:Int)++List.replicate (2*(zJ V.length L).length) 0)[j]?.getD 0=0;rw[List.getElem?_append_right (by rw[List.length_replicate];exact hj),List.getElem?_replicate]
  split<;>rfl) (fun j hj=>by
  show(List.replicate (wM V L).length (1:Int)++List.replicate (2*(zJ V.length L).length) 0)[j]?.getD 0=1
  rw[List.getElem?_append_left (by rw[List.length_replicate];exact hj),List.getElem?_replicate,if_pos hj];rfl) hx (ar (List.replicate (wM V L).length (1:Int)++List.replicate (2*(zJ V.length L).length) 0)).length
 have e3:val ((1:Int),(1:Int))=1:=by rw[ed];exact_mod_cast rfl
 rw[e3]at g4;have e4:r7 (fun j=>r8 (ar (List.replicate (wM V L).length (1:Int)++List.replicate (2*(zJ V.length L).length) 0)) j*r8 r.X j) (ar (List.replicate (wM V L).length (1:Int)++List.replicate (2*(zJ V.length L).length) 0)).length=r7 (fun j=>(((List.replicate (wM V L).length (1:Int)++List.replicate (2*(zJ V.length L).length) 0)[j]?.getD 0:Int):Rat)*val (r.X[j]?.getD (0,0))) (ar (List.replicate (wM V L).length (1:Int)++List.replicate (2*(zJ V.length L).length) 0)).length :=
  br fun j _=>by rw[tm];rfl
 rw[e4]at g4;have E:(1:Rat)<=0:=by rw[g4];exact hle
 exact absurd E (by decide)
theorem pD{E:j7}{r:yu}(hk:k<=E.length){f:Int×Int×Int}(h:f∈xq E r k):f.1∈E:=by
 unfold xq at h;obtain⟨j,G,rfl⟩:=List.mem_map.1 h;have:=List.mem_range.1 (List.mem_filter.1 G).1;have hl:j<E.length:=by omega
 show E[j]?.getD 0∈E;rw[List.getElem?_eq_getElem hl,Option.getD_some];exact List.getElem_mem hl
theorem iT(E:j7)(r:yu)(k:Nat):(xq E r k).length<=k:=by
 unfold xq;rw[List.length_map];have:=List.length_filter_le (fun j=>decide (0<(r.X[j]?.getD (0,0)).1)) (List.range k);rw[List.length_range]at this;exact this
theorem tM{T:j2}{m:Nat}(E:T≠[])(hm:∀f∈T,f.1∈aN L m):(aN (L++T) m).length<(aN L m).length:=by
 have e:aN (L++T) m=(aN L m).filter fun s=>!xT T s:=by
  unfold aN;rw[List.filter_filter];refine List.filter_congr fun s _=>?_
  unfold xT;rw[List.any_append];cases L.any _<;>cases T.any _<;>rfl
 rw[e,List.length_filter_lt_length_iff_exists];obtain⟨f,hf⟩:=List.exists_mem_of_ne_nil T E;refine⟨f.1,hm f hf,?_⟩;have:xT T f.1=true:=List.any_eq_true.2 ⟨f,hf,by simp⟩;rw[this];decide
theorem lP{p:Int}(h:wu p V L=true)(hs:(bQ p.toNat V L).status=1):(wM V (de V L (bQ p.toNat V L))).length<(wM V L).length :=
 tM (uh h hs) fun _ hf=>pD (Nat.le_refl _) hf
theorem lB(V:j7):∀(E:j2) (i:Nat) (c:Ii),(aK V E)[i]?=some c->∃G:Nat,(aK V E)[G]?=some (c.1,-c.2.1,c.2.2.1,-c.2.2.2.1,c.2.2.2.2)
 | [],i,c,h=>by simp[aK]at h
 | f::E,0,c,h=>by
   simp only[aK,List.flatMap_cons,yp,List.cons_append,List.getElem?_cons_zero,Option.some.injEq]at h;subst h;exact⟨1,by simp[aK,yp]⟩
 | f::E,1,c,h=>by
   simp only[aK,List.flatMap_cons,yp,List.cons_append,List.getElem?_cons_succ,List.getElem?_cons_zero,Option.some.injEq]at h;subst h;exact⟨0,by simp[aK,yp]⟩
 | f::E,i+2,c,h=>by
   simp only[aK,List.flatMap_cons,yp,List.cons_append,List.nil_append,List.getElem?_cons_succ]at h;obtain⟨G,h'⟩:=lB V E i c h;exact⟨G+2,by simp only[aK,List.flatMap_cons,yp,List.cons_append,List.nil_append,List.getElem?_cons_succ];exact h'⟩
theorem re{q:Nat}{j:Nat}{c:Ii}(h:(cK V L)[j]?=some c):vJ (stA q V L) j=(List.range (q+1)).map fun k=>c.2.1*vX (Jk q k c):=by
 unfold vJ stA;rw[List.map_map];refine List.map_congr_left fun k _=>?_
 show((cK V L).map fun c=>c.2.1*vX (Jk q k c))[j]?.getD 0=_;rw[List.getElem?_map,h];rfl
theorem qh{j:Nat}{c:Ii}(h:(cK V L)[j]?=some c):(BF V L)[j]?.getD (0,0)=c.2.2.2:=by
 unfold BF;rw[List.getElem?_map,h];rfl
theorem Mk{p:Int}(h:wu p V L=true)(j:Nat)(I:j<(BF V L).length):Gt (stA p.toNat V L) (BF V L) j:=by
 obtain⟨hg,_,_,_⟩:=gu h;obtain⟨h1,_,_,_,_,K⟩:=gF hg;have E:=iI rfl h1 K L;have hj':j<(cK V L).length:=by unfold BF at I;rw[List.length_map]at I;exact I
 obtain⟨c,hc⟩:∃c,(cK V L)[j]?=some c:=⟨_,List.getElem?_eq_getElem hj'⟩;by_cases hf:j<(bd V (aN L (V.length-2))).length
 ·refine Or.inl ⟨-(V[((aN L (V.length-2))[j]?.getD 0).toNat]?.getD 0),?_,?_⟩
  ·rw[qh hc];rw[<-E,List.getElem?_append_left hf]at hc;unfold bd at hc;rw[cZ]at hf;rw[List.getElem?_map,List.getElem?_eq_getElem hf,Option.map_some,Option.some.injEq]at hc;rw[<-hc,List.getElem?_eq_getElem hf,Option.getD_some]
  ·have:=sy hg ((aN L (V.length-2))[j]?.getD 0).toNat;omega
 ·refine Or.inr ?_;have G:=hc;rw[<-E,List.getElem?_append_right e7]at G;obtain⟨J,O⟩:=lB V _ _ _ G;have hi:(cK V L)[(bd V (aN L (V.length-2))).length+J]?=some (c.1,-c.2.1,c.2.2.1,-c.2.2.2.1,c.2.2.2.2):=by
   rw[<-E,List.getElem?_append_right e7,Nat.add_sub_cancel_left];exact O
  refine⟨(bd V (aN L (V.length-2))).length+J,?_,?_,?_⟩
  ·have:=(List.getElem?_eq_some_iff.1 hi).1;unfold BF;rw[List.length_map];exact this
  ·rw[qh hi,qh hc];rfl
  ·rw[re hi,re hc,List.map_map];refine List.map_congr_left fun k _=>?_
   show -c.2.1*vX (Jk p.toNat k c)=-(c.2.1*vX (Jk p.toNat k c));rw[Int.neg_mul]
theorem Jm{p:Int}(h:wu p V L=true):bQ p.toNat V L=ev (stA p.toNat V L) (Gs p.toNat) (BF V L):=mb fun _ j hj=>Mk h j hj
theorem sR{p:Int}(h:aH p V=true)(h2:2<=p)(s:Int):eC p [s]<p:=by
 obtain⟨_,_,hp,_,h5,_⟩:=gF h;unfold eC;rw[if_pos (by unfold r';simp only[Bool.and_eq_true,decide_eq_true_eq];omega)];have:=(gJ me (iL p.toNat [s]) p.toNat e7).2.2.1;have e:([s].map (ys p.toNat)).length=1:=rfl;rw[e]at this;omega
theorem nG{p:Int}(h:wu p V L=true)(hs:(bQ p.toNat V L).status=1):
 (wM V L).length<=(bQ p.toNat V L).X.length/\(bQ p.toNat V L).Y.length=p.toNat+1/\o9 (bQ p.toNat V L).value=true/\∀k,k<(bQ p.toNat V L).Y.length->o9 ((bQ p.toNat V L).Y[k]?.getD (0,0))=true:=by
 obtain⟨v1,_,v3,v4,v5,v6⟩:=fq hs;refine⟨?_,by rw[show(bQ p.toNat V L).Y.length=(Gs p.toNat).length from v4];simp[Gs],v5,v6⟩;have E:aG am (stA p.toNat V L) (Gs p.toNat) (BF V L) (bQ p.toNat V L)=true:=v3;unfold aG at E;rw[if_pos hs]at E;obtain⟨f1,_⟩:=both E;unfold dF at f1;have hl:=of_decide_eq_true (both f1).1;rw[hl];unfold BF cK wM;rw[List.length_map,List.length_append,List.length_append,cZ];omega
theorem mH{p:Int}(h:¬(wu p V L=true/\(bQ p.toNat V L).status=1)):Ay p V f L k=AE.no:=by
 cases f with
 | zero=>rfl
 | succ f=>unfold Ay;rw[if_neg h]
def BO(p:Int)(V:j7)(f:Nat)(pt:j4)(L:j2)(k:Nat):AE:=if dX p V L=true then⟨true,pt,L,k⟩ else Ay p V f L k
theorem sO{p:Int}(hg:aH p V=true)(h2:2<=p):BO p V ((wM V []).length+1) [] [] 0=zr p V:=by
 have hd:dX p V []=false:=by
  unfold dX;have:=sR hg h2 ((V.length:Int)-1);exact decide_eq_false (by show¬eC p [(V.length:Int)-1]=p;omega)
 unfold BO zr;rw[hd,if_pos hg,if_neg e8,if_neg e7]
theorem ul{p:Int}(hd:dX p V L=false)(h:wu p V L=true)(hs:(bQ p.toNat V L).status=1):
 BO p V (f+1) pt L k=BO p V f (Vo p.toNat (bQ p.toNat V L)) (de V L (bQ p.toNat V L)) (k+1):=by
 unfold BO;rw[hd,if_neg e8]
 conv=>lhs;unfold Ay
 rw[if_pos ⟨h,hs⟩]
theorem rB{p:Int}(hd:dX p V L=false)(h:¬(wu p V L=true/\(bQ p.toNat V L).status=1)):BO p V f pt L k=AE.no:=by
 unfold BO;rw[hd,if_neg e8,mH h]
theorem uk{p:Int}(hd:dX p V L=true):BO p V f pt L k=⟨true,pt,L,k⟩:=by
 unfold BO;rw[hd,if_pos rfl]
theorem ry{r:yu}(hn:V.length<=32)(h:∀f∈L,f.1<=1000)(hk:L.length<=32*k):(∀f∈de V L r,f.1<=1000)/\(de V L r).length<=32*(k+1):=by
 refine⟨fun f hf=>?_,?_⟩
 ·rcases List.mem_append.1 hf with h1|h1
  ·exact h f h1
  ·have:=(il (pD (Nat.le_refl _) h1)).2.1;omega
 ·unfold de;rw[List.length_append];have h1:=iT (wM V L) r (wM V L).length;have h2:(wM V L).length<=V.length-2:=dA L (V.length-2);omega
def zs(q:Nat)(z:Nat->Rat)(s:Int):Rat:=r7 (fun k=>z k*((vX (yq s (k:Int)):Int):Rat)) q
def exZ(q:Nat)(V:j7)(z:Nat->Rat)(s:Int):Rat:=((V[s.toNat]?.getD 0:Int):Rat)-zs q z s
structure Meets(q:Nat)(V:j7)(L:j2)(z:Nat->Rat):Prop where
 grand:exZ q V z ((V.length:Int)-1)=0
 fixed:∀f∈L,exZ q V z f.1=val f.2
end Go.Proofs.YtdadoignenffgaaGreatDoor
