import Derived.Test.YtalmoolkhcgmmaaGreatNqAltG25
import Derived.Test.YtalmoolkhcgmmaaGreatNqAltG23
import Derived.Test.YtalmoolkhcgmmaaGreatNqAltG24
import Derived.Test.YtalmoolkhcgmmaaGreatNqAltG13
set_option linter.unusedVariables false
set_option linter.unusedSimpArgs false
namespace Go.Proofs.YtalmoolkhcgmmaaGreat
variable{w:World}{a xa:j8}{n xn j DV:Nat}{A:j7}{X Y D:j6}
set_option maxHeartbeats 16000000
set_option maxRecDepth 100000
open Go.RowKit
theorem lW{b:j8}{cap R J:Nat}{A B:j6}(h:r8 w a n cap A)(h':r8 w b R J B):
 Calls Tryz.prog 135 #[.slice a n cap,.slice b R J] w fun e w'=>e=.returned (BA (xN (wY A B)))/\Ext w w':=by
 have HL:=ae h.hlen;have Ey:=ae h'.hlen;have o3:=h.o3;have l9:=h.l9;have MS:=h'.o3;have Mz:=h'.l9;have wI:=Ext.alloc w (.cells #[.int .i64 0,.int .i64 0] 46);have HIA:=ae (h.ext wI);have HIB:=ae (h'.ext wI);have wM:=ae wI;have xU:=ae (show(w.alloc (.cells #[.int .i64 0,.int .i64 0] 46)).heap[w.heap.size]?=some (.cells #[.int .i64 0,.int .i64 0] 46 (0,0))from ak _ _ _ rfl);clear h h' wI;by_cases hne:n=R
 ·subst hne;have HD:=ae (show wY A B=zA A B n by unfold wY;rw[HL.o,Ey.o,if_pos rfl]);have Jy:((n:Int) != (n:Int))=false:=by simp
  go_enter Tryz.func135,Tryz.ntmps135
  go_wp2_with fail;refine(cl 0 _).mono ?_;rintro e w1 ⟨rfl,wO⟩;have xz:=ae wO;have Bh:=ae (aj.new (Ext.refl w1) 0 1);have zQ:=ae (fun(w':World) (hx:Ext w1 w')=>(hx.block _ (by have:=lt_of_block xU.o;have:=xz.o.size;omega)).trans ((xz.o.block _ (lt_of_block xU.o)).trans xU.o));have Em:=ae (wM.o.trans xz.o);have Mg:w.heap.size<w1.heap.size:=by have:=lt_of_block xU.o;have:=xz.o.size;omega
  clear wO;go_wp2_with fail
  go_loopg [7] n (fun gk ii wr=>∃(k:Nat) (p q:Int),b7 (gk+k=n)/\ii=.int .i64 (k:Int)/\b7 (aj w1 wr w1.heap.size p q)/\b7 (zA A B k=some (p,q)))
  case atStart=>exact⟨0,0,1,ae b9,rfl,Bh,ae rfl⟩
  case round =>
   obtain⟨g1,r7⟩:=b8 gk;subst r7;obtain⟨G,o6⟩:=b8 wr;subst o6;obtain⟨k,p,q,HK,rfl,HB,HT⟩:=hrel;have AR:=HB.o.c0;have zN:=HB.o.c1;have I3:=HB.o.lt;have S5:=HB.o.ext.size;by_cases hlt:k<n
   ·obtain⟨ab,Ag,ax,Z,ha,I4,Bm,Bl⟩:=(HIA.o.ext (xz.o.trans HB.o.ext)).at hlt;obtain⟨W,AO,U,I,hb,zH,Ed,Ec⟩:=(HIB.o.ext (xz.o.trans HB.o.ext)).at hlt;subst ha hb;obtain⟨mx,my,one,hm⟩:∃x y ok,mulR (ax,Z) (U,I)=((x,y),ok):=⟨_,_,_,rfl⟩;have HM:=ae hm;obtain⟨p2,O,two,D4⟩:∃u v ok,xP (p,q) (mx,my)=((u,v),ok):=⟨_,_,_,rfl⟩;have Ax:=ae D4;have zW:=ae (show zA A B (k+1)=if one=true/\two=true then some (p2,O) else none by rw[oF HT.o,I4,zH,hm];simp only;rw[D4]);clear I4 zH hm D4;go_upto_region 7 with fail
    go_cut [8,9] (fun sx so wx=>∃g:Nat,sx=.pointer (some ⟨g,0,none⟩)/\so=.bool one/\b7 (aj G wx g mx my))
    case first =>
     have k7:Ext G G.drew:=Ext.drew G;have xI:Ext G (G.alloc (.cells #[.int .i64 0,.int .i64 0] 46)).drew:=(Ext.alloc _ _).trans (Ext.drew _);have k8:=ae (fun(w':World) (h:Ext G w')=>(⟨h.k6 Bm,h.k6 Bl,h.k6 Ed,h.k6 Ec,h⟩:w'.cell? ⟨ab,Ag+k*2,none⟩=some (.int .i64 ax)/\w'.cell? ⟨ab,Ag+k*2+1,none⟩=some (.int .i64 Z)/\w'.cell? ⟨W,AO+k*2,none⟩=some (.int .i64 U)/\w'.cell? ⟨W,AO+k*2+1,none⟩=some (.int .i64 I)/\Ext G w'))
     go_region_held3 (fun w'=>w'.cell? ⟨ab,Ag+k*2,none⟩=some (.int .i64 ax)/\w'.cell? ⟨ab,Ag+k*2+1,none⟩=some (.int .i64 Z)/\w'.cell? ⟨W,AO+k*2,none⟩=some (.int .i64 U)/\w'.cell? ⟨W,AO+k*2+1,none⟩=some (.int .i64 I)/\Ext G w')
      (first
        | with_reducible exact k8.o _ k7
        | with_reducible exact k8.o _ xI
        | with_reducible exact k8.o _ ((k7.setCell (by first|(simp;done)|(simp;omega)) _).setCell (by first|(simp;done)|(simp;omega)) _)
        | with_reducible exact k8.o _ (k7.trans (Ext.alloc _ _))
        | with_reducible exact k8.o _ (r9.put _ _).ext)
      (first
        | (go_at_call 163
           (with_reducible refine(rt ax Z U I _).mono ?_)
           rw[HM.o];rintro e w3 ⟨rfl,K⟩
           first|(with_reducible have r9:=aj.grow r9 K)|(with_reducible have r9:=aj.xu K)|(with_reducible have r9:=aj.xA k7 K)|skip
           first|(have BQ:=r9.c0;have BP:=r9.c1;have C3:=r9.free)|skip
           have k7:Ext G w3:=by first|with_reducible exact k7.trans K|with_reducible exact xI.trans K|with_reducible exact(k7.trans (Ext.alloc _ _)).trans K
           have zr:=k7.size)
        | fail)
     all_goals(go_wp2_with fail;go_meet;first|exact⟨_,rfl,rfl,ae (r9.put _ _)⟩|exact⟨_,rfl,rfl,ae (aj.new k7 _ _)⟩|exact⟨_,rfl,rfl,ae (aj.new' k7 _ _ e7)⟩)
    obtain⟨g,rfl,rfl,xT⟩:=hcut;have g0:=xT.o.c0;have g1':=xT.o.c1;have Eh:=HB.o.grow xT.o.ext;have Ii:=Eh.c0;have Ih:=Eh.c1;have zE:=ae Eh;clear AR zN Bm Bl Ed Ec Eh;go_wp2_with fail;refine(jP p q mx my _).mono ?_;rw[Ax.o];rintro e w4 ⟨rfl,xG⟩;have AB:=ae (zE.o.grow xG);have Dm:=ae (AB.o.grow (Ext.alloc _ (.cells #[.int .i64 p2,.int .i64 O] 46)));have hr:=ah (zQ.o _ Dm.o.ext);obtain⟨yN,yC,CZ⟩:=hr;have Br:=ae Dm.o.ext;have Qd:=Dm.o.free;have hb5l:=AB.o.lt;have B7:=AB.o.ext.size;have h40:=AB.o.c0;have h41:=AB.o.c1;have h4f:=AB.o.free;clear xG g0 g1' Ii Ih;cases one
    ·have HN:=ae (show wY A B=none by rw[HD.o];exact iT (k:=k+1) (by rw[zW.o];simp) hlt);go_wp2_with fail;refine bodyPost_ret (v:=.tuple #[.agg #[.int .i64 0,.int .i64 0],.bool false]) (by simp[results,Tryz.results135,go_sem,yN,yC]) rfl ⟨by rw[HN.o];rfl,(((Em.o.trans Br.o).store 0 (Nat.le_refl _) _).store 1 (Nat.le_refl _) _)⟩
    ·cases two
     ·have HN:=ae (show wY A B=none by rw[HD.o];exact iT (k:=k+1) (by rw[zW.o];simp) hlt);go_wp2_with fail;refine bodyPost_ret (v:=.tuple #[.agg #[.int .i64 0,.int .i64 0],.bool false]) (by simp[results,Tryz.results135,go_sem,yN,yC]) rfl ⟨by rw[HN.o];rfl,(((Em.o.trans Br.o).store 0 (Nat.le_refl _) _).store 1 (Nat.le_refl _) _)⟩
     ·have Bu:=ae (show zA A B (k+1)=some (p2,O)by rw[zW.o];simp);have Bw:=ae ((AB.o.put p2 O).grow (Ext.alloc _ (.cells #[.int .i64 p2,.int .i64 O] 46)));go_wp2_with fail
      go_roundg (g1-1)
      case measure=>have:=HK.o;omega
      case rel=>exact⟨k+1,p2,O,ae (j4 HK.o),by go_num,Bw,Bu⟩
   ·have xQ:n=k:=by have:=HK.o;omega
    subst xQ;have HY:=ae (show wY A B=some (p,q)by rw[HD.o];exact HT.o);have hr:=ah (zQ.o G HB.o.ext);obtain⟨yN,yC,CZ⟩:=hr;go_wp2_with fail;refine bodyPost_ret (v:=.tuple #[.agg #[.int .i64 p,.int .i64 q],.bool true]) (by simp[results,Tryz.results135,go_sem,yN,yC]) rfl ⟨by rw[HY.o];rfl,(((Em.o.trans HB.o.ext).store 0 (Nat.le_refl _) _).store 1 (Nat.le_refl _) _)⟩
 ·have HN:=ae (show wY A B=none by unfold wY;rw[HL.o,Ey.o,if_neg hne]);have Jy:((n:Int) != (R:Int))=true:=by simp;omega
  have hr:=ah xU.o;obtain⟨yN,yC,CZ⟩:=hr;go_enter Tryz.func135,Tryz.ntmps135
  go_wp2_with fail;refine bodyPost_ret (v:=.tuple #[.agg #[.int .i64 0,.int .i64 0],.bool false]) (by simp[results,Tryz.results135,go_sem,yN,yC]) rfl ⟨by rw[HN.o];rfl,wM.o⟩
theorem eZ{v:Value}{a b:Bool}(h:a=b):Ending.returned (.tuple #[v,.bool a])=.returned (.tuple #[v,.bool b]):=by rw[h]
theorem rl{cap:Nat}{l:j9}(h:Ints w a n cap l)(hbig:n<=1048576):
 Calls Tryz.prog 161 #[.slice a n cap] w fun e w'=>(∃v,e=.returned (.tuple #[v,.bool (CQ l)])/\l8 w' w.heap.size v (dU l))/\Ext w w':=by
 have o3:=h.o3;have l9:=h.l9;have HL:=ae h.hlen;have HI:=ae h;have HO:=ae (l8.made w w.heap.size (Nat.le_refl _));clear h;go_enter Tryz.func161,Tryz.ntmps161
 go_wp2_with fail
 go_loopg [4,5] n (fun gk oo ii wr=>∃(k:Nat) (a1:j8) (n1 c1:Nat),b7 (gk+k=n)/\ii=.int .i64 (k:Int)/\oo=.slice a1 n1 c1/\b7 ((l.take k).all (fun c=>wJ c (-1000000000) 1000000000)=true)/\b7 (l8 wr w.heap.size (.slice a1 n1 c1) (aw (l.take k)))/\b7 (Ext w wr))
 case atStart=>exact⟨0,_,_,_,ae b9,rfl,rfl,ae rfl,HO,ae (Ext.alloc _ _)⟩
 case round =>
  obtain⟨g1,K⟩:=b8 gk;subst K;obtain⟨R,U⟩:=b8 wr;subst U;obtain⟨k,a1,n1,c1,I,rfl,rfl,HA,xC,HX⟩:=hrel;have G:=HX.o.size;by_cases hlt:k<n
  ·obtain⟨b,off,rfl,y5⟩:=(HI.o.ext HX.o).at hlt;obtain⟨x,hx⟩:=b8 (l[k]?.getD 0);rw[<-hx]at y5;have HC:=ae (bG x (-1000000000) 1000000000 R);cases hb:wJ x (-1000000000) 1000000000
   all_goals
    rw[hb]at HC
   ·have HF:=ae (show CQ l=false from fZ (d:=0) (by rw[HL.o];exact hlt) (by rw[<-hx];exact hb));have HR:=ae (show dU l=[]by unfold dU;rw[HF.o];rfl);clear hx hb;go_wp2_with (first|(go_at_call 74;refine HC.o.mono ?_;rintro e w2 ⟨rfl,rfl⟩))
    go_ret2
    exact⟨⟨_,eZ HF.o.symm,by rw[HR.o];exact l8.made _ _ G⟩,HX.o.trans (Ext.alloc _ _)⟩
   ·have HT:=ae (show(l.take (k+1)).all (fun c=>wJ c (-1000000000) 1000000000)=true by rw[iL (d:=0) (by rw[HL.o];exact hlt),HA.o,<-hx,hb];rfl);have AU:=ae (show aw (l.take k)++[(x,1)]=aw (l.take (k+1))by rw[hx];exact lA (by rw[HL.o];exact hlt));have zR:=ae (show(aw (l.take k)).length=k by rw[cz,List.length_take,HL.o];omega);clear hx hb;go_wp2_with (first|(go_at_call 74;refine HC.o.mono ?_;rintro e w2 ⟨rfl,rfl⟩));refine(cl x _).mono ?_;rintro e w3 ⟨rfl,hx⟩;have X3:=ae (HX.o.trans hx);have J:=ae (xC.o.ext hx);have CY:=X3.o.size;clear hx
    go_wp2_with (first
     | (at_builtin;refine aG rfl _ _ rfl w.heap.size (.slice a1 n1 c1) _ rfl (J.o.ext (Ext.alloc _ _)) _ 1 _ [(x,1)] rfl (r8.one' _ _ _ _ _ e7) (by rw[zR.o];omega) (by simp;omega) ?_;intro v5 w5 ho hg l7;have X5:=ae (al (X3.o.trans (Ext.alloc _ _)) hg (fun j hj=>(J.o.lt j hj).1));obtain⟨a5,W,O,rfl,A9⟩:=ho.var;have xL:=ae ho;clear ho hg l7))
    go_roundg (g1-1)
    case measure=>have:=I.o;omega
    case rel=>exact⟨k+1,a5,W,O,ae (j4 I.o),by go_num,rfl,HT,ae (by rw[<-AU.o];exact xL.o),X5⟩
  ·have HT:=ae (show l.take k=l from List.take_of_length_le (by rw[HL.o];have:=I.o;omega));have HF:=ae (show CQ l=true by have:=HA.o;rw[HT.o]at this;exact this);have HR:=ae (show dU l=aw (l.take k)by unfold dU;rw[HF.o,HT.o];rfl);go_wp2_with fail
   go_ret2
   exact⟨⟨_,eZ HF.o.symm,by rw[HR.o];exact xC.o⟩,HX.o⟩
theorem kQ{cap:Nat}{l:j9}(h:Ints w a n cap l)(hf:CQ l=true)(G:n<=1048576){K:Nat}(hX:r8 w xa xn K X):
 Calls Tryz.prog 133 #[.slice a n cap,.slice xa xn K] w fun e w'=>e=.returned (BA (xN (wY (aw l) X)))/\Ext w w':=by
 have wI:=Ext.alloc w (.cells #[.int .i64 0,.int .i64 0] 46);have wM:=ae wI;have HI:=ae (rl (h.ext wI) G);have B9:=ae (hX.ext wI);have R:=ae (show dU l=aw l by unfold dU;rw[hf];rfl);have xU:=ae (show(w.alloc (.cells #[.int .i64 0,.int .i64 0] 46)).heap[w.heap.size]?=some (.cells #[.int .i64 0,.int .i64 0] 46 (0,0))from ak _ _ _ rfl);rw[hf,R.o]at HI;clear h hX wI hf;go_enter Tryz.func133,Tryz.ntmps133
 go_wp2_with fail;refine HI.o.mono ?_;rintro e w1 ⟨⟨v1,rfl,ho⟩,hx⟩;obtain⟨a1,n1,c1,rfl,He⟩:=ho.var;have HD:=ae (lW ho.wK (B9.o.ext hx));have X1:=ae hx;obtain⟨U,Bk⟩:=b8 (wY (aw l) X);rw[<-Bk]at HD;have O:=ae Bk;clear ho hx Bk;have J:=X1.o.size;rw[World.size_alloc]at J;cases U with
 | none =>
   rw[show xN none=((0,0),false)from rfl]at HD;go_wp2_with fail;refine HD.o.mono ?_;rintro e w2 ⟨rfl,hx⟩;have X2:=ae ((X1.o.trans hx).trans (Ext.alloc w2 (.cells #[.int .i64 0,.int .i64 0] 46)));have hr:=ah (X2.o.blk xU.o);obtain⟨yN,yC,CZ⟩:=hr;clear hx;go_wp2_with fail;refine bodyPost_ret (v:=.tuple #[.agg #[.int .i64 0,.int .i64 0],.bool false]) (by simp[results,Tryz.results133,go_sem,yN,yC]) rfl ⟨by rw[<-O.o];rfl,(((wM.o.trans X2.o).store 0 (Nat.le_refl _) _).store 1 (Nat.le_refl _) _)⟩
 | some r =>
   obtain⟨r1,I⟩:=r;rw[show xN (some (r1,I))=((r1,I),true)from rfl]at HD;go_wp2_with fail;refine HD.o.mono ?_;rintro e w2 ⟨rfl,hx⟩;have X2:=ae ((X1.o.trans hx).trans (Ext.alloc w2 (.cells #[.int .i64 r1,.int .i64 I] 46)));have hr:=ah (X2.o.blk xU.o);obtain⟨yN,yC,CZ⟩:=hr;clear hx;go_wp2_with fail;refine bodyPost_ret (v:=.tuple #[.agg #[.int .i64 r1,.int .i64 I],.bool true]) (by simp[results,Tryz.results133,go_sem,yN,yC]) rfl ⟨by rw[<-O.o];rfl,(((wM.o.trans X2.o).store 0 (Nat.le_refl _) _).store 1 (Nat.le_refl _) _)⟩
theorem jg(m:Nat)(hm:m<=100000):
 Calls Tryz.prog 119 #[.int .i64 (m:Int)] w fun e w'=>(∃v,e=.returned v/\l8 w' w.heap.size v (List.replicate m (0,1)))/\Ext w w':=by
 have HO:=ae (l8.made w w.heap.size (Nat.le_refl _));go_enter Tryz.func119,Tryz.ntmps119
 go_wp2_with fail
 go_loopg [3,4] m (fun gk oo ii wr=>∃(k:Nat) (a1:j8) (n1 p1:Nat),b7 (gk+k=m)/\ii=.int .i64 (k:Int)/\oo=.slice a1 n1 p1/\b7 (l8 wr w.heap.size (.slice a1 n1 p1) (List.replicate k (0,1)))/\b7 (Ext w wr))
 case atStart=>exact⟨0,_,_,_,ae b9,rfl,rfl,HO,ae (Ext.alloc _ _)⟩
 case round =>
  obtain⟨g1,J⟩:=b8 gk;subst J;obtain⟨o7,O⟩:=b8 wr;subst O;obtain⟨k,a1,n1,p1,G,rfl,rfl,xC,HX⟩:=hrel;by_cases hlt:k<m
  ·have zR:=ae (show(List.replicate k ((0:Int),(1:Int))).length=k by simp);go_wp2_with fail;refine(cl 0 _).mono ?_;rintro e w3 ⟨rfl,hx⟩;have X3:=ae (HX.o.trans hx);have I:=ae (xC.o.ext hx);have CY:=X3.o.size;clear hx
   go_wp2_with (first
    | (at_builtin;refine aG rfl _ _ rfl w.heap.size (.slice a1 n1 p1) _ rfl (I.o.ext (Ext.alloc _ _)) _ 1 _ [(0,1)] rfl (r8.one' _ _ _ _ _ e7) (by rw[zR.o];omega) (by simp;omega) ?_;intro v5 w5 ho hg l7;have X5:=ae (al (X3.o.trans (Ext.alloc _ _)) hg (fun j hj=>(I.o.lt j hj).1));obtain⟨a5,R,K,rfl,A9⟩:=ho.var;have xL:=ae ho;clear ho hg l7))
   go_roundg (g1-1)
   case measure=>have:=G.o;omega
   case rel=>exact⟨k+1,a5,R,K,ae (j4 G.o),by go_num,rfl,ae (by have:=xL.o;rw[<-List.replicate_succ']at this;exact this),X5⟩
  ·have U:m=k:=by have:=G.o;omega
   subst U;go_wp2_with fail;go_ret;exact⟨⟨_,rfl,xC.o⟩,HX.o⟩
section
variable{w:World}{a:j8}{na ca:Nat}{b:j8}{nb cb:Nat}{c:j8}{nc cc:Nat}{A:j7}{B:j9}{C:j6}
theorem ux(h:Cz w a na ca b nb cb c nc cc A B C)(ok:xF A B C=true){j:Nat}(hj:j<nc):
 Calls Tryz.prog 162 #[C8 a na ca b nb cb c nc cc,.int .i64 (j:Int)] w fun e w'=>(∃v,e=.returned v/\o8 w' w.heap.size v (xD A j))/\Ext w w':=by
 obtain⟨r1,r2,r3,K,u,Z⟩:=cI h ok;subst r3;have wI:=Ext.alloc w (bE a nb ca b nb cb c nc cc);have wM:=ae wI;have G:=ae (show(w.alloc (bE a nb ca b nb cb c nc cc)).heap[w.heap.size]?=some (.cells #[.slice a nb ca,.slice b nb cb,.slice c nc cc] 52 (0,0))from ak _ _ _ rfl);obtain⟨W,hW⟩:=b8 (w.alloc (bE a nb ca b nb cb c nc cc));have H:=ae (h.ext wI);rw[<-hW]at wI wM G H;have HI:=ae H.o.a;have Ke:=h.a.o3;have ES:=h.a.l9;have yq:=h.c.o3;have AZ:=h.c.l9;have HL:=ae h.a.hlen;have zR:=ae K;have DT:W.heap.size=w.heap.size+1:=by rw[hW];simp
 have HO:=ae (o8.yG W (w.heap.size+1) _ rfl b9);have I:=ae (Ext.alloc W (.cells #[] 3));have HV:=ae (eg (H.o.ext I.o));rw[ok]at HV;have Dx:=ae (fun w'=>bG (j:Int) 0 ((nc:Int)-1) w');rw[show wJ (j:Int) 0 ((nc:Int)-1)=true by unfold wJ;simp;omega]at Dx;have Ce:IntKind.i64.wrap ((nc:Int)-1)=(nc:Int)-1:=by rw[IntKind.wrap_i64];omega
 clear h K u Z ok wI;go_enter Tryz.func162,Tryz.ntmps162
 go_upto_region 1 with fail;rw[<-hW];clear hW;have p0:=au (I.o.blk G.o);have p1:=aH (I.o.blk G.o);have p2:=aI (I.o.blk G.o);rw[DT]at HO;go_wp2_with fail;refine HV.o.mono ?_;rintro e w1 ⟨rfl,hx⟩;have X1:=ae (I.o.trans hx);have UA:=ae (HO.o.ext hx);clear hx p0 p1 p2;have p2:=aI (X1.o.blk G.o);go_wp2_with (first|(go_at_call 74;refine(Dx.o _).mono ?_;rintro e w2 ⟨rfl,rfl⟩))
 go_loopg [5,6] nb (fun gk o ii wr=>∃(k:Nat) (a1:j8) (n1 p1:Nat),b7 (gk+k=nb)/\ii=.int .i64 (k:Int)/\o=.slice a1 n1 p1/\b7 (o8 wr (w.heap.size+1) (.slice a1 n1 p1) (xD (A.take k) j))/\b7 (Ext W wr))
 case atStart=>exact⟨0,_,_,_,ae b9,rfl,rfl,ae (by simpa[xD]using UA.o),X1⟩
 case round =>
  obtain⟨g1,U⟩:=b8 gk;subst U;obtain⟨o7,o6⟩:=b8 wr;subst o6;obtain⟨k,a1,n1,p1,J,rfl,rfl,xC,xz⟩:=hrel;clear p2;have p0:=au (xz.o.blk G.o);have hsz:=xz.o.size;by_cases hlt:k<nb
  ·obtain⟨gb,FJ,ra,rn,rc,rfl,PZ,o9⟩:=(HI.o.ext xz.o).at hlt;have BF:rn=nc:=by rw[<-o9.hlen];exact zR.o k hlt
   subst BF;obtain⟨eb,xi,rfl,Rx⟩:=o9.at hj;obtain⟨x,hx⟩:=b8 ((A[k]?.getD [])[j]?.getD 0);rw[<-hx]at Rx;have HS:=ae (show xD (A.take k) j++[x]=xD (A.take (k+1)) j by rw[hx];exact oz (by rw[HL.o];exact hlt));have Ji:=ae (show(xD (A.take k) j).length=k by simp[xD];have:=HL.o;omega);have Mn:=o9.o3;have WJ:=o9.l9;clear o9 hx
   go_wp2_with (first
    | (at_builtin;refine bm rfl _ _ rfl (w.heap.size+1) (.slice a1 n1 p1) _ rfl (xC.o.ext (Ext.alloc _ _)) _ 1 _ [x] rfl (Ints.Ad _ _ _ _ e7) (by rw[Ji.o];omega) (by simp;omega) ?_;intro v2 w3 ho hg l7;have X5:=ae (al (xz.o.trans (Ext.alloc _ _)) hg (fun i hi=>by have:=(xC.o.lt i hi).1;omega));obtain⟨a2,n2,c2,rfl,Fa⟩:=ho.var;have O:=ae ho;clear ho hg l7))
   go_roundg (g1-1)
   case measure=>have:=J.o;omega
   case rel=>exact⟨k+1,a2,n2,c2,ae (j4 J.o),by go_num,rfl,ae (by rw[<-HS.o];exact O.o),X5⟩
  ·have R:nb=k:=by have:=J.o;omega
   subst R;have HT:=ae (show A.take nb=A from List.take_of_length_le (by rw[HL.o];exact Nat.le_refl _));rw[HT.o]at xC;go_wp2_with fail;go_ret;exact⟨⟨_,rfl,xC.o.mono b9⟩,wM.o.trans xz.o⟩
theorem jf{w:World}{a:j8}{n cap:Nat}{l:j6}(h:r8 w a n cap l):
 Calls Tryz.prog 137 #[.slice a n cap] w fun e w'=>e=.returned (.bool (BC l))/\Ext w w':=by
 have o3:=h.o3;have l9:=h.l9;have HL:=ae h.hlen;have HI:=ae h;clear h;go_enter Tryz.func137,Tryz.ntmps137
 go_wp2_with fail
 go_loopg [3] n (fun gk ii wr=>∃k:Nat,b7 (gk+k=n)/\ii=.int .i64 (k:Int)/\b7 ((l.take k).all (fun r=>o5 r&&decide (0<=r.1))=true)/\b7 (Ext w wr))
 case atStart=>exact⟨0,ae b9,rfl,ae rfl,ae (Ext.refl _)⟩
 case round =>
  obtain⟨g1,J⟩:=b8 gk;subst J;obtain⟨K,O⟩:=b8 wr;subst O;obtain⟨k,I,rfl,HA,HX⟩:=hrel;by_cases hlt:k<n
  ·obtain⟨b,off,x,y,rfl,G,y5,yq⟩:=(HI.o.ext HX.o).at hlt;have HC:=ae (aO x y K);have zD:=ae (show k<l.length by rw[HL.o];exact hlt);cases hb:o5 (x,y)
   all_goals
    rw[hb]at HC
   ·have HF:=ae (show BC l=false from fZ (d:=(0,0)) zD.o (by rw[G,hb];rfl));clear G hb;go_wp2_with fail;refine HC.o.mono ?_;rintro e w2 ⟨rfl,xg⟩;go_wp2_with fail;go_ret;exact⟨ag HF.o.symm,HX.o.trans xg⟩
   ·by_cases wI:x<0
    ·have HF:=ae (show BC l=false from fZ (d:=(0,0)) zD.o (by rw[G,hb];simp;omega));clear G hb;go_wp2_with fail;refine HC.o.mono ?_;rintro e w2 ⟨rfl,xg⟩;have k0:=xg.k6 y5;have k1:=xg.k6 yq;go_wp2_with fail;go_ret;exact⟨ag HF.o.symm,HX.o.trans xg⟩
    ·have HT:=ae (show(l.take (k+1)).all (fun r=>o5 r&&decide (0<=r.1))=true by rw[iL (d:=(0,0)) zD.o,HA.o,G,hb];simp;omega);clear G hb;go_wp2_with fail;refine HC.o.mono ?_;rintro e w2 ⟨rfl,xg⟩;have k0:=xg.k6 y5;have k1:=xg.k6 yq;go_wp2_with fail
     go_roundg (g1-1)
     case measure=>have:=I.o;omega
     case rel=>exact⟨k+1,ae (j4 I.o),by go_num,HT,ae (HX.o.trans xg)⟩
  ·have HT:=ae (show l.take k=l from List.take_of_length_le (by rw[HL.o];have:=I.o;omega));go_wp2_with fail;go_ret;exact⟨ag (by have:=HA.o;rw[HT.o]at this;exact this.symm),HX.o⟩
end
theorem fs{r:j9}(h:∀x∈r,-5000<=x/\x<=5000):CQ r=true:=by
 unfold CQ;rw[List.all_eq_true];intro x hx;have:=h x hx;unfold wJ;simp;omega
theorem pz{na ca:Nat}{b:j8}{nb cb:Nat}{c:j8}{nc cc:Nat}(h:et w a na ca A)(hX:r8 w xa xn DV X)
 {da:j8} {O Nn:Nat} {D:j9} (R:Ints w da O Nn D) (hdn:na<=O) (o9:∀i,i<na->(A[i]?.getD []).length<=70/\∀x∈A[i]?.getD [],-5000<=x/\x<=5000) :
 Calls Tryz.prog 138 #[C8 a na ca b nb cb c nc cc,.slice xa xn DV,.slice da O Nn] w fun e w'=>e=.returned (.bool (dj A X D))/\Ext w w':=by
 have wI:=Ext.alloc w (bE a na ca b nb cb c nc cc);have wM:=ae wI;have HI:=ae (h.ext wI);have B9:=ae (hX.ext wI);have CV:=ae (R.ext wI);have u:=ae o9;have Ke:=h.o3;have ES:=h.l9;have FI:=R.o3;have P8:=R.l9;have BL:=ae h.hlen;have wQ:=ae (show(w.alloc (bE a na ca b nb cb c nc cc)).heap[w.heap.size]?=some (.cells #[.slice a na ca,.slice b nb cb,.slice c nc cc] 52 (0,0))from ak _ _ _ rfl);have HE:=ae (show dj A X D=(List.range na).all (gm A X D)by rw[oL,BL.o]);clear h hX R wI o9;go_enter Tryz.func138,Tryz.ntmps138
 go_wp2_with fail
 go_loopg [7] na (fun gk ii wr=>∃k:Nat,b7 (gk+k=na)/\ii=.int .i64 (k:Int)/\b7 ((List.range k).all (gm A X D)=true)/\b7 (Ext (w.alloc (bE a na ca b nb cb c nc cc)) wr))
 case atStart=>exact⟨0,ae b9,rfl,ae rfl,ae (Ext.refl _)⟩
 case round =>
  obtain⟨g1,r7⟩:=b8 gk;subst r7;obtain⟨o7,o6⟩:=b8 wr;subst o6;obtain⟨k,Z,rfl,HA,HX⟩:=hrel;have W:=HX.o.size;rw[World.size_alloc]at W;by_cases hlt:k<na
  ·obtain⟨gb,FJ,ra,rn,rc,Ol,PZ,o9⟩:=(HI.o.ext HX.o).at hlt;subst Ol;have BF:rn<=70:=by rw[<-o9.hlen];exact(u.o k hlt).1
   have p0:=au (HX.o.blk wQ.o);have X2:=HX;have HD:=ae (kQ o9 (fs (u.o k hlt).2) b9 (B9.o.ext X2.o));clear o9;obtain⟨dv,Bk⟩:=b8 (wY (aw (A[k]?.getD [])) X);have HG:=ae (show gm A X D k=decide (dv=some (D[k]?.getD 0,1))by rw[Bk];rfl);rw[<-Bk]at HD;clear Bk;obtain⟨db,EW,Xw,K⟩:=(CV.o.ext X2.o).at (show k<O by omega);subst Xw;obtain⟨d,hd⟩:=b8 (D[k]?.getD 0);rw[<-hd]at HG K;clear hd;cases dv with
   | none =>
     rw[show xN none=((0,0),false)from rfl]at HD;have HF:=ae (show dj A X D=false by rw[HE.o];exact dq hlt (by rw[HG.o];rfl));go_wp2_with fail;refine HD.o.mono ?_;rintro e w3 ⟨rfl,J⟩;have X3:=ae (X2.o.trans J);clear J K;obtain⟨E,G⟩:=b8 (w3.alloc (.cells #[.int .i64 0,.int .i64 0] 46));have XE:=ae (show Ext w3 E by rw[G];exact Ext.alloc _ _);go_upto_region 5 with fail;rw[<-G];clear G;have k7:Ext E E.drew:=Ext.drew E;refine wp_region_held_drew (S:=(fun w'=>Ext E w')) e8 ?_ (fun k9=>?_)
     ·exact k7
     refine tk 0 ?_;refine tk 1 ?_;refine tk 2 ?_;refine sk 3 ?_;refine sk 4 ?_;refine sk 5 ?_;refine sk 6 ?_;refine sk 7 ?_;refine sk 8 ?_;refine sk 9 ?_;refine tk 10 ?_;refine wpAnyH_done e8 ?_ _;go_wp2_with fail;go_ret;exact⟨ag HF.o.symm,((wM.o.trans X3.o).trans XE.o).trans k7⟩
   | some r =>
     obtain⟨r1,I⟩:=r;rw[show xN (some (r1,I))=((r1,I),true)from rfl]at HD;go_wp2_with fail;refine HD.o.mono ?_;rintro e w3 ⟨rfl,J⟩;replace K:=J.k6 K;have X3:=ae (X2.o.trans J);clear J;obtain⟨E,G⟩:=b8 (w3.alloc (.cells #[.int .i64 r1,.int .i64 I] 46));have U:Ext w3 E:=by rw[G];exact Ext.alloc _ _
     have XE:=ae (X3.o.trans U);have e0:=U.k6 K;have b0:E.cell? ⟨w3.heap.size,0,none⟩=some (.int .i64 r1):=by rw[G];simp
     have b1:E.cell? ⟨w3.heap.size,1,none⟩=some (.int .i64 I):=by rw[G];simp
     go_upto_region 5 with fail;rw[<-G];clear G K U;have yJ:(k:Int)<(O:Int):=by omega
     have FF:(0:Int)<=(k:Int):=by omega
     have k7:Ext E E.drew:=Ext.drew E;have k8:=ae (fun(w':World) (h:Ext E w')=>(⟨h.k6 e0,h.k6 b0,h.k6 b1,h⟩:w'.cell? ⟨db,EW+k,none⟩=some (.int .i64 d)/\w'.cell? ⟨w3.heap.size,0,none⟩=some (.int .i64 r1)/\w'.cell? ⟨w3.heap.size,1,none⟩=some (.int .i64 I)/\Ext E w'));have Vy:=ae (show gm A X D k=((r1 == d)&&(I == 1))by rw[HG.o,Bool.eq_iff_iff];simp);cases wO:(r1 == d)
     all_goals
      cases xM:(I == 1)
     all_goals
      have UH:=ae Vy.o;rw[wO,xM]at UH
      go_region_held3 (fun w'=>w'.cell? ⟨db,EW+k,none⟩=some (.int .i64 d)/\w'.cell? ⟨w3.heap.size,0,none⟩=some (.int .i64 r1)/\w'.cell? ⟨w3.heap.size,1,none⟩=some (.int .i64 I)/\Ext E w')
       (first
         | with_reducible exact k8.o _ k7)
       (first
         | (go_at_call 32
            (with_reducible refine(cl _ _).mono ?_)
            rintro e w5 ⟨rfl,zh⟩
            have k7:Ext E w5:=k7.trans zh)
         | fail)
      have X5:=ae (XE.o.trans k7);clear k7
     all_goals try(
      have HF:=ae (show dj A X D=false by rw[HE.o];exact dq hlt (by rw[UH.o];rfl));go_wp2_with fail;go_ret
      exact⟨ag HF.o.symm,wM.o.trans X5.o⟩)
     have HT:=ae (show(List.range (k+1)).all (gm A X D)=true by rw[gV,HA.o,UH.o];rfl);go_wp2_with fail
     go_roundg (g1-1)
     case measure=>have:=Z.o;omega
     case rel=>exact⟨k+1,ae (j4 Z.o),by go_num,HT,X5⟩
  ·have xQ:na=k:=by have:=Z.o;omega
   subst xQ;have p0:=au (HX.o.blk wQ.o);go_wp2_with fail;go_ret;exact⟨ag (by rw[HE.o,HA.o]),wM.o.trans HX.o⟩
section
variable{w:World}{a:j8}{na ca:Nat}{b:j8}{nb cb:Nat}{c:j8}{nc cc:Nat}{A:j7}{B:j9}{C:j6}
theorem kv(h:Cz w a na ca b nb cb c nc cc A B C)(ok:xF A B C=true){xa:j8}{xn DV:Nat}{X:j6}(hX:r8 w xa xn DV X):
 Calls Tryz.prog 136 #[C8 a na ca b nb cb c nc cc,.slice xa xn DV] w fun e w'=>e=.returned (.bool (dp A B C.length X))/\Ext w w':=by
 obtain⟨r1,r2,Z,U,K,R⟩:=cI h ok;subst Z;have wI:=Ext.alloc w (bE a nb ca b nb cb c nc cc);have wM:=ae wI;have H:=ae (h.ext wI);have B9:=ae (hX.ext wI);have G:=ae (show(w.alloc (bE a nb ca b nb cb c nc cc)).heap[w.heap.size]?=some (.cells #[.slice a nb ca,.slice b nb cb,.slice c nc cc] 52 (0,0))from ak _ _ _ rfl);have yq:=h.c.o3;have AZ:=h.c.l9;have zN:=h.b.o3;have zx:=h.b.l9;have wO:=hX.o3;have xg:=hX.l9;have HV:=ae (eg H.o);rw[ok]at HV;have HE:=ae (show dp A B C.length X=(decide (xn=nc)&&(BC X&&dj A X B))by unfold dp;rw[h.c.hlen,hX.hlen]);have Gc:=ae K;clear h hX wI ok U K R;by_cases hn:xn=nc
 ·subst hn;have I:((xn:Int) == (xn:Int))=true:=by simp
  obtain⟨O,J⟩:=b8 (BC X);obtain⟨u,BO⟩:=b8 (dj A X B);have AE:=ae (show dp A B C.length X=(O&&u)by rw[HE.o,<-J,<-BO];simp);have HN:=ae (fun(W:World) (hx:Ext (w.alloc (bE a nb ca b nb cb c xn cc)) W)=>jf (B9.o.ext hx));have HG:=ae (fun(W:World) (hx:Ext (w.alloc (bE a nb ca b nb cb c xn cc)) W)=>pz (b:=b) (nb:=nb) (cb:=cb) (c:=c) (nc:=xn) (cc:=cc) (H.o.ext hx).a (B9.o.ext hx) (H.o.ext hx).b (Nat.le_refl _) Gc.o);simp only[<-J]at HN;simp only[<-BO]at HG;clear J BO;cases O
  ·go_enter Tryz.func136,Tryz.ntmps136
   go_wp2_with fail;refine HV.o.mono ?_;rintro e w1 ⟨rfl,hx⟩;have X1:=ae hx;clear hx;have p2:=aI (X1.o.blk G.o);go_wp2_with fail;refine(HN.o _ X1.o).mono ?_;rintro e w2 ⟨rfl,hx⟩;go_wp2_with fail;go_ret;exact⟨ag AE.o.symm,wM.o.trans (X1.o.trans hx)⟩
  ·go_enter Tryz.func136,Tryz.ntmps136
   go_wp2_with fail;refine HV.o.mono ?_;rintro e w1 ⟨rfl,hx⟩;have X1:=ae hx;clear hx;have p2:=aI (X1.o.blk G.o);go_wp2_with fail;refine(HN.o _ X1.o).mono ?_;rintro e w2 ⟨rfl,hx⟩;have X2:=ae (X1.o.trans hx);clear hx p2;have p0:=au (X2.o.blk G.o);have p1:=aH (X2.o.blk G.o);have p2:=aI (X2.o.blk G.o);go_wp2_with fail;refine(HG.o _ X2.o).mono ?_;rintro e w3 ⟨rfl,hx⟩;go_wp2_with fail;go_ret;exact⟨ag AE.o.symm,wM.o.trans (X2.o.trans hx)⟩
 ·have I:((xn:Int) == (nc:Int))=false:=by simp;omega
  have HF:=ae (show dp A B C.length X=false by rw[HE.o,decide_eq_false hn];rfl);go_enter Tryz.func136,Tryz.ntmps136
  go_wp2_with fail;refine HV.o.mono ?_;rintro e w1 ⟨rfl,hx⟩;have X1:=ae hx;clear hx;have p2:=aI (X1.o.blk G.o);go_wp2_with fail;go_ret;exact⟨ag HF.o.symm,wM.o.trans X1.o⟩
theorem rS{A:j7}{Y D:j6}{j:Nat}(h:none=wY (aw (xD A j)) Y):bj A Y D j=false:=by unfold bj;rw[iS,<-h]
theorem rT{A:j7}{Y D:j6}{j:Nat}{v d:k5}(h:some v=wY (aw (xD A j)) Y)(hd:D[j]?.getD (0,0)=d):bj A Y D j=decide (0<=wU d v):=by unfold bj;rw[iS,<-h,hd]
theorem rz(h:Cz w a na ca b nb cb c nc cc A B C)(ok:xF A B C=true){ya:j8}{yn yc:Nat}{Y:j6}(hY:r8 w ya yn yc Y){da:j8}{R dc:Nat}{D:j6}(W:r8 w da R dc D)(hdn:nc<=R):
 Calls Tryz.prog 134 #[C8 a na ca b nb cb c nc cc,.slice ya yn yc,.slice da R dc] w fun e w'=>e=.returned (.bool ((List.range C.length).all (bj A Y D)))/\Ext w w':=by
 obtain⟨r1,G,r3,r4,r5,r6⟩:=cI h ok;subst r3;have wI:=Ext.alloc w (bE a nb ca b nb cb c nc cc);have wM:=ae wI;have H:=ae (h.ext wI);have F9:=ae (hY.ext wI);have CV:=ae (W.ext wI);have wQ:=ae (show(w.alloc (bE a nb ca b nb cb c nc cc)).heap[w.heap.size]?=some (.cells #[.slice a nb ca,.slice b nb cb,.slice c nc cc] 52 (0,0))from ak _ _ _ rfl);have yq:=h.c.o3;have AZ:=h.c.l9;have FI:=W.o3;have P8:=W.l9;have z7:=ae ok;have Gg:=ae (fun j=>fs (ic (A:=A) (fun i hi=>(r5 i (j4 h.a.hlen)).2) j));have HE:=ae (show(List.range C.length).all (bj A Y D)=(List.range nc).all (bj A Y D)by rw[h.c.hlen]);have BL:=ae h.a.hlen;clear h hY W wI ok r4 r5 r6;go_enter Tryz.func134,Tryz.ntmps134
 go_wp2_with fail
 go_loopg [7] nc (fun gk ii wr=>∃k:Nat,b7 (gk+k=nc)/\ii=.int .i64 (k:Int)/\b7 ((List.range k).all (bj A Y D)=true)/\b7 (Ext (w.alloc (bE a nb ca b nb cb c nc cc)) wr))
 case atStart=>exact⟨0,ae b9,rfl,ae rfl,ae (Ext.refl _)⟩
 case round =>
  obtain⟨g1,r7⟩:=b8 gk;subst r7;obtain⟨o7,o6⟩:=b8 wr;subst o6;obtain⟨k,HK,rfl,HA,HX⟩:=hrel;have p0:=au (HX.o.blk wQ.o);have p1:=aH (HX.o.blk wQ.o);have p2:=aI (HX.o.blk wQ.o);by_cases hlt:k<nc
  ·have Cq:=ae (ux (H.o.ext HX.o) z7.o hlt);go_wp2_with fail;refine Cq.o.mono ?_;rintro e w2 ⟨⟨v2,rfl,ho⟩,hx⟩;obtain⟨a2,n2,c2,rfl,Fa⟩:=ho.var;have H6:n2<=1048576:=by have h1:=Fa.o;rw[lD,BL.o]at h1;omega
   have X2:=ae (HX.o.trans hx);have U:=ae (kQ ho.ints (Gg.o k) H6 (F9.o.ext X2.o));obtain⟨dv,Bk⟩:=b8 (wY (aw (xD A k)) Y);rw[<-Bk]at U;have GS:=ae Bk;clear ho hx Bk p0 p1 p2;cases dv with
   | none =>
     rw[show xN none=((0,0),false)from rfl]at U;have HF:=ae (show(List.range nc).all (bj A Y D)=false from dq hlt (rS GS.o));go_wp2_with fail;refine U.o.mono ?_;rintro e w3 ⟨rfl,O⟩;have X3:=ae (X2.o.trans O);clear O;obtain⟨E,I⟩:=b8 (w3.alloc (.cells #[.int .i64 0,.int .i64 0] 46));have XE:=ae (show Ext w3 E by rw[I];exact Ext.alloc _ _);go_upto_region 5 with fail;rw[<-I];clear I;have k7:Ext E E.drew:=Ext.drew E;refine wp_region_held_drew (S:=(fun w'=>Ext E w')) e8 ?_ (fun k9=>?_)
     ·exact k7
     refine tk 0 ?_;refine tk 1 ?_;refine tk 2 ?_;refine sk 3 ?_;refine sk 4 ?_;refine sk 5 ?_;refine sk 6 ?_;refine sk 7 ?_;refine sk 8 ?_;refine sk 9 ?_;refine tk 10 ?_;refine wpAnyH_done e8 ?_ _;go_wp2_with fail;go_ret;exact⟨ag (by rw[HE.o,HF.o]),((wM.o.trans X3.o).trans XE.o).trans k7⟩
   | some r =>
     obtain⟨r1,G⟩:=r;rw[show xN (some (r1,G))=((r1,G),true)from rfl]at U;go_wp2_with fail;refine U.o.mono ?_;rintro e w3 ⟨rfl,O⟩;have X3:=ae (X2.o.trans O);clear O;obtain⟨E,I⟩:=b8 (w3.alloc (.cells #[.int .i64 r1,.int .i64 G] 46));obtain⟨J,Fj⟩:=b8 w3.heap.size;have zw:Ext w3 E:=by rw[I];exact Ext.alloc _ _
     have XE:=ae (X3.o.trans zw);have b0:E.cell? ⟨J,0,none⟩=some (.int .i64 r1):=by rw[I,Fj];simp
     have b1:E.cell? ⟨J,1,none⟩=some (.int .i64 G):=by rw[I,Fj];simp
     obtain⟨db,EW,u,Z,Xw,F6,e0,e1⟩:=(CV.o.ext XE.o).at (show k<R by omega);subst Xw;obtain⟨cm,Eb⟩:=b8 (wU (u,Z) (r1,G));have HB:=ae (show bj A Y D k=decide (0<=cm)by rw[Eb];exact rT GS.o F6);have Cr:=ae (fun w'=>eo u Z r1 G w');simp only[<-Eb]at Cr;go_upto_region 5 with fail;rw[<-I,<-Fj];clear I Fj zw Eb F6;have yJ:(k:Int)<(R:Int):=by omega
     have FF:(0:Int)<=(k:Int):=by omega
     have k7:Ext E E.drew:=Ext.drew E;have k8:=ae (fun(w':World) (h:Ext E w')=>(⟨h.k6 e0,h.k6 e1,h.k6 b0,h.k6 b1,h⟩:w'.cell? ⟨db,EW+k*2,none⟩=some (.int .i64 u)/\w'.cell? ⟨db,EW+k*2+1,none⟩=some (.int .i64 Z)/\w'.cell? ⟨J,0,none⟩=some (.int .i64 r1)/\w'.cell? ⟨J,1,none⟩=some (.int .i64 G)/\Ext E w'));refine wp_region_held_drew (S:=(fun w'=>w'.cell? ⟨db,EW+k*2,none⟩=some (.int .i64 u)/\w'.cell? ⟨db,EW+k*2+1,none⟩=some (.int .i64 Z)/\w'.cell? ⟨J,0,none⟩=some (.int .i64 r1)/\w'.cell? ⟨J,1,none⟩=some (.int .i64 G)/\Ext E w')) e8 ?_ (fun k9=>?_)
     ·exact k8.o _ k7
     refine tk 0 ?_;refine tk 1 ?_;refine tk 2 ?_;refine tk 3 ?_;refine tk 4 ?_;refine tk 5 ?_;refine tk 6 ?_;refine tk 7 ?_;refine rd (i:=8) (h:=fun K hK=>?_);go_simp
     (go_at_call 118;refine(Cr.o _).mono ?_;rintro e w4 ⟨rfl,xG⟩;have k7:=k7.trans xG)
     go_wp2_with fail;refine hK.out _ _ ?_ (fun k9=>?_)
     ·exact k8.o _ k7
     clear hK K
     try simp only[Act.put,sA,sB,sC]
     refine tk 9 ?_;refine tk 10 ?_;refine wpAnyH_done e8 ?_ _;have X5:=ae (XE.o.trans k7);clear k7;by_cases y5:cm<0
     ·have HF:=ae (show(List.range nc).all (bj A Y D)=false from dq hlt (by rw[HB.o];simp;omega));go_wp2_with fail;go_ret;exact⟨ag (by rw[HE.o,HF.o]),wM.o.trans X5.o⟩
     ·have HT:=ae (show(List.range (k+1)).all (bj A Y D)=true by rw[gV,HA.o,HB.o];simp;omega);go_wp2_with fail
      go_roundg (g1-1)
      case measure=>have:=HK.o;omega
      case rel=>exact⟨k+1,ae (j4 HK.o),by go_num,HT,X5⟩
  ·have xQ:nc=k:=by have:=HK.o;omega
   subst xQ;go_wp2_with fail;go_ret;exact⟨ag (by rw[HE.o,HA.o]),wM.o.trans HX.o⟩
end
end Go.Proofs.YtalmoolkhcgmmaaGreat
