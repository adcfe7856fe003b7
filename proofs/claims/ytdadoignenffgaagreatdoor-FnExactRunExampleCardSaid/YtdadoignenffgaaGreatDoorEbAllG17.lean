import Derived.Test.YtdadoignenffgaaGreatDoorEbAllG15
import Derived.Test.YtdadoignenffgaaGreatDoorEbAllG13
import Derived.Test.YtdadoignenffgaaGreatDoorEbAllG14
import Derived.Test.YtdadoignenffgaaGreatDoorEbAllG5
set_option linter.unusedVariables false
set_option linter.unusedSimpArgs false
namespace Go.Proofs.YtdadoignenffgaaGreatDoor
variable{w:World}{a xa:j6}{n xn j FU:Nat}{A:j5}{X Y D:j4}
set_option maxHeartbeats 16000000
set_option maxRecDepth 100000
open Go.RowKit
theorem nG{b:j6}{cap Q J:Nat}{A B:j4}(h:Rats w a n cap A)(h':Rats w b Q J B):
 Calls Tryz.prog 176 #[.slice a n cap,.slice b Q J] w fun e w'=>e=.returned (ER (z7 (zr A B)))/\Ext w w':=by
 have HL:=ae h.hlen;have PX:=ae h'.hlen;have l8:=h.l8;have l9:=h.l9;have ON:=h'.l8;have Ov:=h'.l9;have y9:=Ext.alloc w (.cells #[.int .i64 0,.int .i64 0] 62);have HIA:=ae (h.ext y9);have HIB:=ae (h'.ext y9);have y7:=ae y9;have zF:=ae (show(w.alloc (.cells #[.int .i64 0,.int .i64 0] 62)).heap[w.heap.size]?=some (.cells #[.int .i64 0,.int .i64 0] 62 (0,0))from ai _ _ _ rfl);clear h h' y9;by_cases hne:n=Q
 ·subst hne;have HD:=ae (show zr A B=Bp A B n by unfold zr;rw[HL.o,PX.o,hI rfl]);have Qj:((n:Int) != (n:Int))=false:=by simp
  go_enter Tryz.func176,Tryz.ntmps176
  go_wp2_with fail;refine(cO 0 _).mono ?_;rintro e w1 ⟨rfl,zK⟩;have yZ:=ae zK;have EO:=ae (ah.new (Ext.refl w1) 0 1);have CZ:=ae (fun(w':World) (hx:Ext w1 w')=>(hx.block _ (by have:=mr zF.o;have:=yZ.o.size;omega)).trans ((yZ.o.block _ (mr zF.o)).trans zF.o));have I4:=ae (y7.o.trans yZ.o);have Ur:w.heap.size<w1.heap.size:=by have:=mr zF.o;have:=yZ.o.size;omega
  clear zK;go_wp2_with fail
  go_loopg [7] n (fun gk ii wr=>∃(k:Nat) (p q:Int),b7 (gk+k=n)/\ii=.int .i64 (k:Int)/\b7 (ah w1 wr w1.heap.size p q)/\b7 (Bp A B k=some (p,q)))
  case atStart=>exact⟨0,0,1,ae e7,rfl,EO,ae rfl⟩
  case round =>
   obtain⟨g1,o7⟩:=b9 gk;subst o7;obtain⟨G,o5⟩:=b9 wr;subst o5;obtain⟨k,p,q,HK,rfl,HB,HT⟩:=hrel;have Cn:=HB.o.c0;have AS:=HB.o.c1;have JE:=HB.o.lt;have hszb:=HB.o.ext.size;by_cases hlt:k<n
   ·obtain⟨ab,BP,ax,ay,ha,K3,C9,C8⟩:=(HIA.o.ext (yZ.o.trans HB.o.ext)).at hlt;obtain⟨Z,Cp,U,I,hb,BH,Ge,Gd⟩:=(HIB.o.ext (yZ.o.trans HB.o.ext)).at hlt;subst ha hb;obtain⟨mx,my,one,hm⟩:∃x y ok,mulR (ax,ay) (U,I)=((x,y),ok):=⟨_,_,_,rfl⟩;have HM:=ae hm;obtain⟨p2,q2,two,Hw⟩:∃u v ok,Ab (p,q) (mx,my)=((u,v),ok):=⟨_,_,_,rfl⟩;have B6:=ae Hw;have AT:=ae (show Bp A B (k+1)=if one=true/\two=true then some (p2,q2) else none by rw[qo HT.o,K3,BH,hm];simp only;rw[Hw]);clear K3 BH hm Hw;go_upto_region 7 with fail
    go_cut [8,9] (fun sx so wx=>∃g:Nat,sx=.pointer (some ⟨g,0,none⟩)/\so=.bool one/\b7 (ah G wx g mx my))
    case first =>
     have k7:Ext G G.drew:=Ext.drew G;have zw:Ext G (G.alloc (.cells #[.int .i64 0,.int .i64 0] 62)).drew:=(Ext.alloc _ _).trans (Ext.drew _);have k8:=ae (fun(w':World) (h:Ext G w')=>(⟨h.j9 C9,h.j9 C8,h.j9 Ge,h.j9 Gd,h⟩:w'.cell? ⟨ab,BP+k*2,none⟩=some (.int .i64 ax)/\w'.cell? ⟨ab,BP+k*2+1,none⟩=some (.int .i64 ay)/\w'.cell? ⟨Z,Cp+k*2,none⟩=some (.int .i64 U)/\w'.cell? ⟨Z,Cp+k*2+1,none⟩=some (.int .i64 I)/\Ext G w'))
     go_region_held3 (fun w'=>w'.cell? ⟨ab,BP+k*2,none⟩=some (.int .i64 ax)/\w'.cell? ⟨ab,BP+k*2+1,none⟩=some (.int .i64 ay)/\w'.cell? ⟨Z,Cp+k*2,none⟩=some (.int .i64 U)/\w'.cell? ⟨Z,Cp+k*2+1,none⟩=some (.int .i64 I)/\Ext G w')
      (first
        | with_reducible exact k8.o _ k7
        | with_reducible exact k8.o _ zw
        | with_reducible exact k8.o _ ((k7.setCell (by first|(simp;done)|(simp;omega)) _).setCell (by first|(simp;done)|(simp;omega)) _)
        | with_reducible exact k8.o _ (k7.trans (Ext.alloc _ _))
        | with_reducible exact k8.o _ (q8.put _ _).ext)
      (first
        | (go_at_call 223
           (with_reducible refine(tH ax ay U I _).mono ?_)
           rw[HM.o];rintro e w3 ⟨rfl,O⟩
           first|(with_reducible have q8:=ah.grow q8 O)|(with_reducible have q8:=ah.zu O)|(with_reducible have q8:=ah.zy k7 O)|skip
           first|(have Dy:=q8.c0;have Dx:=q8.c1;have Ev:=q8.free)|skip
           have k7:Ext G w3:=by first|with_reducible exact k7.trans O|with_reducible exact zw.trans O|with_reducible exact(k7.trans (Ext.alloc _ _)).trans O
           have A0:=k7.size)
        | fail)
     all_goals(go_wp2_with fail;go_meet;first|exact⟨_,rfl,rfl,ae (q8.put _ _)⟩|exact⟨_,rfl,rfl,ae (ah.new k7 _ _)⟩|exact⟨_,rfl,rfl,ae (ah.new' k7 _ _ e8)⟩)
    obtain⟨g,rfl,rfl,Ad⟩:=hcut;have g0:=Ad.o.c0;have g1':=Ad.o.c1;have RV:=HB.o.grow Ad.o.ext;have OS:=RV.c0;have OR:=RV.c1;have A6:=ae RV;clear Cn AS C9 C8 Ge Gd RV;go_wp2_with fail;refine(je p q mx my _).mono ?_;rw[B6.o];rintro e w4 ⟨rfl,zX⟩;have K:=ae (A6.o.grow zX);have Ig:=ae (K.o.grow (Ext.alloc _ (.cells #[.int .i64 p2,.int .i64 q2] 62)));have hr:=aj (CZ.o _ Ig.o.ext);obtain⟨A',AX,GA⟩:=hr;have D0:=ae Ig.o.ext;have U0:=Ig.o.free;have Ze:=K.o.lt;have IW:=K.o.ext.size;have h40:=K.o.c0;have h41:=K.o.c1;have h4f:=K.o.free;clear zX g0 g1' OS OR;cases one
    ·have HN:=ae (show zr A B=none by rw[HD.o];exact jw (k:=k+1) (by rw[AT.o];simp) hlt);go_wp2_with fail;refine bR (v:=.tuple #[.agg #[.int .i64 0,.int .i64 0],.bool false]) (by simp[results,acI,go_sem,A',AX]) rfl ⟨by rw[HN.o];rfl,(((I4.o.trans D0.o).store 0 (ao _) _).store 1 (ao _) _)⟩
    ·cases two
     ·have HN:=ae (show zr A B=none by rw[HD.o];exact jw (k:=k+1) (by rw[AT.o];simp) hlt);go_wp2_with fail;refine bR (v:=.tuple #[.agg #[.int .i64 0,.int .i64 0],.bool false]) (by simp[results,acI,go_sem,A',AX]) rfl ⟨by rw[HN.o];rfl,(((I4.o.trans D0.o).store 0 (ao _) _).store 1 (ao _) _)⟩
     ·have Dh:=ae (show Bp A B (k+1)=some (p2,q2)by rw[AT.o];simp);have Ie:=ae ((K.o.put p2 q2).grow (Ext.alloc _ (.cells #[.int .i64 p2,.int .i64 q2] 62)));go_wp2_with fail
      go_roundg (g1-1)
      case measure=>have:=HK.o;omega
      case rel=>exact⟨k+1,p2,q2,ae (j1 HK.o),by go_num,Ie,Dh⟩
   ·have zQ:n=k:=by have:=HK.o;omega
    subst zQ;have HY:=ae (show zr A B=some (p,q)by rw[HD.o];exact HT.o);have hr:=aj (CZ.o G HB.o.ext);obtain⟨A',AX,GA⟩:=hr;go_wp2_with fail;refine bR (v:=.tuple #[.agg #[.int .i64 p,.int .i64 q],.bool true]) (by simp[results,acI,go_sem,A',AX]) rfl ⟨by rw[HY.o];rfl,(((I4.o.trans HB.o.ext).store 0 (ao _) _).store 1 (ao _) _)⟩
 ·have HN:=ae (show zr A B=none by unfold zr;rw[HL.o,PX.o,hD hne]);have Qj:((n:Int) != (Q:Int))=true:=by simp;omega
  have hr:=aj zF.o;obtain⟨A',AX,GA⟩:=hr;go_enter Tryz.func176,Tryz.ntmps176
  go_wp2_with fail;refine bR (v:=.tuple #[.agg #[.int .i64 0,.int .i64 0],.bool false]) (by simp[results,acI,go_sem,A',AX]) rfl ⟨by rw[HN.o];rfl,y7.o⟩
theorem fj{v:Value}{a b:Bool}(h:a=b):Ending.returned (.tuple #[v,.bool a])=.returned (.tuple #[v,.bool b]):=by rw[h]
theorem tF{cap:Nat}{l:j7}(h:Ints w a n cap l)(hbig:n<=1048576):
 Calls Tryz.prog 221 #[.slice a n cap] w fun e w'=>(∃v,e=.returned (.tuple #[v,.bool (Eu l)])/\o0 w' w.heap.size v (en l))/\Ext w w':=by
 have l8:=h.l8;have l9:=h.l9;have HL:=ae h.hlen;have HI:=ae h;have HO:=ae (o0.made w w.heap.size (ao _));clear h;go_enter Tryz.func221,Tryz.ntmps221
 go_wp2_with fail
 go_loopg [4,5] n (fun gk oo ii wr=>∃(k:Nat) (a1:j6) (G c1:Nat),b7 (gk+k=n)/\ii=.int .i64 (k:Int)/\oo=.slice a1 G c1/\b7 ((l.take k).all (fun c=>r9 c (-1000000000) 1000000000)=true)/\b7 (o0 wr w.heap.size (.slice a1 G c1) (az (l.take k)))/\b7 (Ext w wr))
 case atStart=>exact⟨0,_,_,_,ae e7,rfl,rfl,ae rfl,HO,ae (Ext.alloc _ _)⟩
 case round =>
  obtain⟨g1,Q⟩:=b9 gk;subst Q;obtain⟨U,Z⟩:=b9 wr;subst Z;obtain⟨k,a1,G,c1,J,rfl,rfl,HA,zv,HX⟩:=hrel;have I:=HX.o.size;by_cases hlt:k<n
  ·obtain⟨b,off,rfl,AB⟩:=(HI.o.ext HX.o).at hlt;obtain⟨x,hx⟩:=b9 (l[k]?.getD 0);rw[<-hx]at AB;have HC:=ae (aZ x (-1000000000) 1000000000 U);cases hb:r9 x (-1000000000) 1000000000
   all_goals
    rw[hb]at HC
   ·have HF:=ae (show Eu l=false from iv (d:=0) (by rw[HL.o];exact hlt) (by rw[<-hx];exact hb));have HR:=ae (show en l=[]by unfold en;rw[HF.o];rfl);clear hx hb;go_wp2_with (first|(go_at_call 45;refine HC.o.mono ?_;rintro e w2 ⟨rfl,rfl⟩))
    go_ret2
    exact⟨⟨_,fj HF.o.symm,by rw[HR.o];exact o0.made _ _ I⟩,HX.o.trans (Ext.alloc _ _)⟩
   ·have HT:=ae (show(l.take (k+1)).all (fun c=>r9 c (-1000000000) 1000000000)=true by rw[kN (d:=0) (by rw[HL.o];exact hlt),HA.o,<-hx,hb];rfl);have Bw:=ae (show az (l.take k)++[(x,1)]=az (l.take (k+1))by rw[hx];exact mQ (by rw[HL.o];exact hlt));have AN:=ae (show(az (l.take k)).length=k by rw[eY,FX,HL.o];omega);clear hx hb;go_wp2_with (first|(go_at_call 45;refine HC.o.mono ?_;rintro e w2 ⟨rfl,rfl⟩));refine(cO x _).mono ?_;rintro e w3 ⟨rfl,hx⟩;have X3:=ae (HX.o.trans hx);have K:=ae (zv.o.ext hx);have F6:=X3.o.size;clear hx
    go_wp2_with (first
     | (at_builtin;refine aM rfl _ _ rfl w.heap.size (.slice a1 G c1) _ rfl (K.o.ext (Ext.alloc _ _)) _ 1 _ [(x,1)] rfl (Rats.one' _ _ _ _ _ e8) (by rw[AN.o];omega) (by simp;omega) ?_;intro v5 w5 ho hg k9;have X5:=ae (ak (X3.o.trans (Ext.alloc _ _)) hg (fun j hj=>(K.o.lt j hj).1));obtain⟨a5,n5,O,rfl,CF⟩:=ho.var;have zW:=ae ho;clear ho hg k9))
    go_roundg (g1-1)
    case measure=>have:=J.o;omega
    case rel=>exact⟨k+1,a5,n5,O,ae (j1 J.o),by go_num,rfl,HT,ae (by rw[<-Bw.o];exact zW.o),X5⟩
  ·have HT:=ae (show l.take k=l from p4 (by rw[HL.o];have:=J.o;omega));have HF:=ae (show Eu l=true by have:=HA.o;rw[HT.o]at this;exact this);have HR:=ae (show en l=az (l.take k)by unfold en;rw[HF.o,HT.o];rfl);go_wp2_with fail
   go_ret2
   exact⟨⟨_,fj HF.o.symm,by rw[HR.o];exact zv.o⟩,HX.o⟩
theorem lU{cap:Nat}{l:j7}(h:Ints w a n cap l)(hf:Eu l=true)(G:n<=1048576){O:Nat}(hX:Rats w xa xn O X):
 Calls Tryz.prog 173 #[.slice a n cap,.slice xa xn O] w fun e w'=>e=.returned (ER (z7 (zr (az l) X)))/\Ext w w':=by
 have y9:=Ext.alloc w (.cells #[.int .i64 0,.int .i64 0] 62);have y7:=ae y9;have HI:=ae (tF (h.ext y9) G);have DL:=ae (hX.ext y9);have Z:=ae (show en l=az l by unfold en;rw[hf];rfl);have zF:=ae (show(w.alloc (.cells #[.int .i64 0,.int .i64 0] 62)).heap[w.heap.size]?=some (.cells #[.int .i64 0,.int .i64 0] 62 (0,0))from ai _ _ _ rfl);rw[hf,Z.o]at HI;clear h hX y9 hf;go_enter Tryz.func173,Tryz.ntmps173
 go_wp2_with fail;refine HI.o.mono ?_;rintro e w1 ⟨⟨v1,rfl,ho⟩,hx⟩;obtain⟨a1,n1,c1,rfl,ED⟩:=ho.var;have HD:=ae (nG ho.zj (DL.o.ext hx));have X1:=ae hx;obtain⟨U,K⟩:=b9 (zr (az l) X);rw[<-K]at HD;have Q:=ae K;clear ho hx K;have J:=X1.o.size;rw[V4]at J;cases U with
 | none =>
   rw[show z7 none=((0,0),false)from rfl]at HD;go_wp2_with fail;refine HD.o.mono ?_;rintro e w2 ⟨rfl,hx⟩;have X2:=ae ((X1.o.trans hx).trans (Ext.alloc w2 (.cells #[.int .i64 0,.int .i64 0] 62)));have hr:=aj (X2.o.blk zF.o);obtain⟨A',AX,GA⟩:=hr;clear hx;go_wp2_with fail;refine bR (v:=.tuple #[.agg #[.int .i64 0,.int .i64 0],.bool false]) (by simp[results,Tryz.results173,go_sem,A',AX]) rfl ⟨by rw[<-Q.o];rfl,(((y7.o.trans X2.o).store 0 (ao _) _).store 1 (ao _) _)⟩
 | some r =>
   obtain⟨r1,I⟩:=r;rw[show z7 (some (r1,I))=((r1,I),true)from rfl]at HD;go_wp2_with fail;refine HD.o.mono ?_;rintro e w2 ⟨rfl,hx⟩;have X2:=ae ((X1.o.trans hx).trans (Ext.alloc w2 (.cells #[.int .i64 r1,.int .i64 I] 62)));have hr:=aj (X2.o.blk zF.o);obtain⟨A',AX,GA⟩:=hr;clear hx;go_wp2_with fail;refine bR (v:=.tuple #[.agg #[.int .i64 r1,.int .i64 I],.bool true]) (by simp[results,Tryz.results173,go_sem,A',AX]) rfl ⟨by rw[<-Q.o];rfl,(((y7.o.trans X2.o).store 0 (ao _) _).store 1 (ao _) _)⟩
theorem lD(m:Nat)(hm:m<=100000):
 Calls Tryz.prog 175 #[.int .i64 (m:Int)] w fun e w'=>(∃v,e=.returned v/\o0 w' w.heap.size v (List.replicate m (0,1)))/\Ext w w':=by
 have HO:=ae (o0.made w w.heap.size (ao _));go_enter Tryz.func175,Tryz.ntmps175
 go_wp2_with fail
 go_loopg [3,4] m (fun gk oo ii wr=>∃(k:Nat) (a1:j6) (G p1:Nat),b7 (gk+k=m)/\ii=.int .i64 (k:Int)/\oo=.slice a1 G p1/\b7 (o0 wr w.heap.size (.slice a1 G p1) (List.replicate k (0,1)))/\b7 (Ext w wr))
 case atStart=>exact⟨0,_,_,_,ae e7,rfl,rfl,HO,ae (Ext.alloc _ _)⟩
 case round =>
  obtain⟨g1,O⟩:=b9 gk;subst O;obtain⟨o6,Q⟩:=b9 wr;subst Q;obtain⟨k,a1,G,p1,I,rfl,rfl,zv,HX⟩:=hrel;by_cases hlt:k<m
  ·have AN:=ae (show(List.replicate k ((0:Int),(1:Int))).length=k by simp);go_wp2_with fail;refine(cO 0 _).mono ?_;rintro e w3 ⟨rfl,hx⟩;have X3:=ae (HX.o.trans hx);have J:=ae (zv.o.ext hx);have F6:=X3.o.size;clear hx
   go_wp2_with (first
    | (at_builtin;refine aM rfl _ _ rfl w.heap.size (.slice a1 G p1) _ rfl (J.o.ext (Ext.alloc _ _)) _ 1 _ [(0,1)] rfl (Rats.one' _ _ _ _ _ e8) (by rw[AN.o];omega) (by simp;omega) ?_;intro v5 w5 ho hg k9;have X5:=ae (ak (X3.o.trans (Ext.alloc _ _)) hg (fun j hj=>(J.o.lt j hj).1));obtain⟨a5,U,K,rfl,CF⟩:=ho.var;have zW:=ae ho;clear ho hg k9))
   go_roundg (g1-1)
   case measure=>have:=I.o;omega
   case rel=>exact⟨k+1,a5,U,K,ae (j1 I.o),by go_num,rfl,ae (by have:=zW.o;rw[<-aaA]at this;exact this),X5⟩
  ·have Z:m=k:=by have:=I.o;omega
   subst Z;go_wp2_with fail;go_ret;exact⟨⟨_,rfl,zv.o⟩,HX.o⟩
section
variable{w:World}{a:j6}{na ca:Nat}{b:j6}{nb cb:Nat}{c:j6}{nc cc:Nat}{A:j5}{B:j7}{C:j4}
theorem wQ(h:EA w a na ca b nb cb c nc cc A B C)(ok:zM A B C=true){j:Nat}(hj:j<nc):
 Calls Tryz.prog 222 #[DD a na ca b nb cb c nc cc,.int .i64 (j:Int)] w fun e w'=>(∃v,e=.returned v/\o4 w' w.heap.size v (zP A j))/\Ext w w':=by
 obtain⟨r1,r2,Z,K,U,Q⟩:=cQ h ok;subst Z;have y9:=Ext.alloc w (bj a nb ca b nb cb c nc cc);have y7:=ae y9;have zf:=ae (show(w.alloc (bj a nb ca b nb cb c nc cc)).heap[w.heap.size]?=some (.cells #[.slice a nb ca,.slice b nb cb,.slice c nc cc] 68 (0,0))from ai _ _ _ rfl);obtain⟨W,hW⟩:=b9 (w.alloc (bj a nb ca b nb cb c nc cc));have H:=ae (h.ext y9);rw[<-hW]at y9 y7 zf H;have HI:=ae H.o.a;have Mq:=h.a.l8;have Mp:=h.a.l9;have Ba:=h.c.l8;have CY:=h.c.l9;have HL:=ae h.a.hlen;have AN:=ae K;have FM:W.heap.size=w.heap.size+1:=by rw[hW];simp
 have HO:=ae (o4.Az W (w.heap.size+1) _ rfl e7);have G:=ae (Ext.alloc W (.cells #[] 3));have HV:=ae (ej (H.o.ext G.o));rw[ok]at HV;have Ja:=ae (fun w'=>aZ (j:Int) 0 ((nc:Int)-1) w');rw[show r9 (j:Int) 0 ((nc:Int)-1)=true by unfold r9;simp;omega]at Ja;have GX:IntKind.i64.wrap ((nc:Int)-1)=(nc:Int)-1:=by rw[cn];omega
 clear h K U Q ok y9;go_enter Tryz.func222,Tryz.ntmps222
 go_upto_region 1 with fail;rw[<-hW];clear hW;have p0:=am (G.o.blk zf.o);have p1:=aD (G.o.blk zf.o);have p2:=aG (G.o.blk zf.o);rw[FM]at HO;go_wp2_with fail;refine HV.o.mono ?_;rintro e w1 ⟨rfl,hx⟩;have X1:=ae (G.o.trans hx);have VU:=ae (HO.o.ext hx);clear hx p0 p1 p2;have p2:=aG (X1.o.blk zf.o);go_wp2_with (first|(go_at_call 45;refine(Ja.o _).mono ?_;rintro e w2 ⟨rfl,rfl⟩))
 go_loopg [5,6] nb (fun gk o ii wr=>∃(k:Nat) (a1:j6) (I p1:Nat),b7 (gk+k=nb)/\ii=.int .i64 (k:Int)/\o=.slice a1 I p1/\b7 (o4 wr (w.heap.size+1) (.slice a1 I p1) (zP (A.take k) j))/\b7 (Ext W wr))
 case atStart=>exact⟨0,_,_,_,ae e7,rfl,rfl,ae (by simpa[zP]using VU.o),X1⟩
 case round =>
  obtain⟨g1,o7⟩:=b9 gk;subst o7;obtain⟨o6,o5⟩:=b9 wr;subst o5;obtain⟨k,a1,I,p1,J,rfl,rfl,zv,yZ⟩:=hrel;clear p2;have p0:=am (yZ.o.blk zf.o);have hsz:=yZ.o.size;by_cases hlt:k<nb
  ·obtain⟨gb,DU,ra,rn,rc,rfl,Ku,o8⟩:=(HI.o.ext yZ.o).at hlt;have CP:rn=nc:=by rw[<-o8.hlen];exact AN.o k hlt
   subst CP;obtain⟨eb,zl,rfl,S7⟩:=o8.at hj;obtain⟨x,hx⟩:=b9 ((A[k]?.getD [])[j]?.getD 0);rw[<-hx]at S7;have HS:=ae (show zP (A.take k) j++[x]=zP (A.take (k+1)) j by rw[hx];exact qe (by rw[HL.o];exact hlt));have Ib:=ae (show(zP (A.take k) j).length=k by simp[zP];have:=HL.o;omega);have Io:=o8.l8;have Yo:=o8.l9;clear o8 hx
   go_wp2_with (first
    | (at_builtin;refine bu rfl _ _ rfl (w.heap.size+1) (.slice a1 I p1) _ rfl (zv.o.ext (Ext.alloc _ _)) _ 1 _ [x] rfl (Ints.CL _ _ _ _ e8) (by rw[Ib.o];omega) (by simp;omega) ?_;intro v2 w3 ho hg k9;have X5:=ae (ak (yZ.o.trans (Ext.alloc _ _)) hg (fun i hi=>by have:=(zv.o.lt i hi).1;omega));obtain⟨a2,n2,c2,rfl,Gu⟩:=ho.var;have Ar:=ae ho;clear ho hg k9))
   go_roundg (g1-1)
   case measure=>have:=J.o;omega
   case rel=>exact⟨k+1,a2,n2,c2,ae (j1 J.o),by go_num,rfl,ae (by rw[<-HS.o];exact Ar.o),X5⟩
  ·have O:nb=k:=by have:=J.o;omega
   subst O;have HT:=ae (show A.take nb=A from p4 (by rw[HL.o];exact ao _));rw[HT.o]at zv;go_wp2_with fail;go_ret;exact⟨⟨_,rfl,zv.o.mono e7⟩,y7.o.trans yZ.o⟩
theorem jC{w:World}{a:j6}{n cap:Nat}{l:j4}(h:Rats w a n cap l):
 Calls Tryz.prog 178 #[.slice a n cap] w fun e w'=>e=.returned (.bool (DN l))/\Ext w w':=by
 have l8:=h.l8;have l9:=h.l9;have HL:=ae h.hlen;have HI:=ae h;clear h;go_enter Tryz.func178,Tryz.ntmps178
 go_wp2_with fail
 go_loopg [3] n (fun gk ii wr=>∃k:Nat,b7 (gk+k=n)/\ii=.int .i64 (k:Int)/\b7 ((l.take k).all (fun r=>o9 r&&decide (0<=r.1))=true)/\b7 (Ext w wr))
 case atStart=>exact⟨0,ae e7,rfl,ae rfl,ae (Ext.refl _)⟩
 case round =>
  obtain⟨g1,K⟩:=b9 gk;subst K;obtain⟨O,Q⟩:=b9 wr;subst Q;obtain⟨k,I,rfl,HA,HX⟩:=hrel;by_cases hlt:k<n
  ·obtain⟨b,off,x,y,rfl,G,AB,Ba⟩:=(HI.o.ext HX.o).at hlt;have HC:=ae (aH x y O);have J:=ae (show k<l.length by rw[HL.o];exact hlt);cases hb:o9 (x,y)
   all_goals
    rw[hb]at HC
   ·have HF:=ae (show DN l=false from iv (d:=(0,0)) J.o (by rw[G,hb];rfl));clear G hb;go_wp2_with fail;refine HC.o.mono ?_;rintro e w2 ⟨rfl,zJ⟩;go_wp2_with fail;go_ret;exact⟨ag HF.o.symm,HX.o.trans zJ⟩
   ·by_cases y9:x<0
    ·have HF:=ae (show DN l=false from iv (d:=(0,0)) J.o (by rw[G,hb];simp;omega));clear G hb;go_wp2_with fail;refine HC.o.mono ?_;rintro e w2 ⟨rfl,zJ⟩;have U:=zJ.j9 AB;have k1:=zJ.j9 Ba;go_wp2_with fail;go_ret;exact⟨ag HF.o.symm,HX.o.trans zJ⟩
    ·have HT:=ae (show(l.take (k+1)).all (fun r=>o9 r&&decide (0<=r.1))=true by rw[kN (d:=(0,0)) J.o,HA.o,G,hb];simp;omega);clear G hb;go_wp2_with fail;refine HC.o.mono ?_;rintro e w2 ⟨rfl,zJ⟩;have U:=zJ.j9 AB;have k1:=zJ.j9 Ba;go_wp2_with fail
     go_roundg (g1-1)
     case measure=>have:=I.o;omega
     case rel=>exact⟨k+1,ae (j1 I.o),by go_num,HT,ae (HX.o.trans zJ)⟩
  ·have HT:=ae (show l.take k=l from p4 (by rw[HL.o];have:=I.o;omega));go_wp2_with fail;go_ret;exact⟨ag (by have:=HA.o;rw[HT.o]at this;exact this.symm),HX.o⟩
end
theorem fI{r:j7}(h:∀x∈r,-5000<=x/\x<=5000):Eu r=true:=by
 unfold Eu;rw[Di];intro x hx;have:=h x hx;unfold r9;simp;omega
theorem qZ{na ca:Nat}{b:j6}{nb cb:Nat}{c:j6}{nc cc:Nat}(h:cH w a na ca A)(hX:Rats w xa xn FU X)
 {da:j6} {O Pm:Nat} {D:j7} (Q:Ints w da O Pm D) (RM:na<=O) (o8:∀i,i<na->(A[i]?.getD []).length<=70/\∀x∈A[i]?.getD [],-5000<=x/\x<=5000) :
 Calls Tryz.prog 179 #[DD a na ca b nb cb c nc cc,.slice xa xn FU,.slice da O Pm] w fun e w'=>e=.returned (.bool (dC A X D))/\Ext w w':=by
 have y9:=Ext.alloc w (bj a na ca b nb cb c nc cc);have y7:=ae y9;have HI:=ae (h.ext y9);have DL:=ae (hX.ext y9);have EH:=ae (Q.ext y9);have CZ:=ae o8;have Mq:=h.l8;have Mp:=h.l9;have Ir:=Q.l8;have RO:=Q.l9;have CG:=ae h.hlen;have zf:=ae (show(w.alloc (bj a na ca b nb cb c nc cc)).heap[w.heap.size]?=some (.cells #[.slice a na ca,.slice b nb cb,.slice c nc cc] 68 (0,0))from ai _ _ _ rfl);have HE:=ae (show dC A X D=(List.range na).all (gD A X D)by rw[qs,CG.o]);clear h hX Q y9 o8;go_enter Tryz.func179,Tryz.ntmps179
 go_wp2_with fail
 go_loopg [7] na (fun gk ii wr=>∃k:Nat,b7 (gk+k=na)/\ii=.int .i64 (k:Int)/\b7 ((List.range k).all (gD A X D)=true)/\b7 (Ext (w.alloc (bj a na ca b nb cb c nc cc)) wr))
 case atStart=>exact⟨0,ae e7,rfl,ae rfl,ae (Ext.refl _)⟩
 case round =>
  obtain⟨g1,o7⟩:=b9 gk;subst o7;obtain⟨o6,o5⟩:=b9 wr;subst o5;obtain⟨k,Z,rfl,HA,HX⟩:=hrel;have U:=HX.o.size;rw[V4]at U;by_cases hlt:k<na
  ·obtain⟨gb,DU,ra,rn,rc,Oz,Ku,o8⟩:=(HI.o.ext HX.o).at hlt;subst Oz;have CP:rn<=70:=by rw[<-o8.hlen];exact(CZ.o k hlt).1
   have p0:=am (HX.o.blk zf.o);have X2:=HX;have HD:=ae (lU o8 (fI (CZ.o k hlt).2) e7 (DL.o.ext X2.o));clear o8;obtain⟨dv,DJ⟩:=b9 (zr (az (A[k]?.getD [])) X);have HG:=ae (show gD A X D k=decide (dv=some (D[k]?.getD 0,1))by rw[DJ];rfl);rw[<-DJ]at HD;clear DJ;obtain⟨db,He,Y3,K⟩:=(EH.o.ext X2.o).at (show k<O by omega);subst Y3;obtain⟨d,hd⟩:=b9 (D[k]?.getD 0);rw[<-hd]at HG K;clear hd;cases dv with
   | none =>
     rw[show z7 none=((0,0),false)from rfl]at HD;have HF:=ae (show dC A X D=false by rw[HE.o];exact dz hlt (by rw[HG.o];rfl));go_wp2_with fail;refine HD.o.mono ?_;rintro e w3 ⟨rfl,J⟩;have X3:=ae (X2.o.trans J);clear J K;obtain⟨E,G⟩:=b9 (w3.alloc (.cells #[.int .i64 0,.int .i64 0] 62));have XE:=ae (show Ext w3 E by rw[G];exact Ext.alloc _ _);go_upto_region 5 with fail;rw[<-G];clear G;have k7:Ext E E.drew:=Ext.drew E;refine rN (S:=(fun w'=>Ext E w')) e9 ?_ (fun l7=>?_)
     ·exact k7
     refine tk 0 ?_;refine tk 1 ?_;refine tk 2 ?_;refine sk 3 ?_;refine sk 4 ?_;refine sk 5 ?_;refine sk 6 ?_;refine sk 7 ?_;refine sk 8 ?_;refine sk 9 ?_;refine tk 10 ?_;refine Gh e9 ?_ _;go_wp2_with fail;go_ret;exact⟨ag HF.o.symm,((y7.o.trans X3.o).trans XE.o).trans k7⟩
   | some r =>
     obtain⟨r1,I⟩:=r;rw[show z7 (some (r1,I))=((r1,I),true)from rfl]at HD;go_wp2_with fail;refine HD.o.mono ?_;rintro e w3 ⟨rfl,J⟩;replace K:=J.j9 K;have X3:=ae (X2.o.trans J);clear J;obtain⟨E,G⟩:=b9 (w3.alloc (.cells #[.int .i64 r1,.int .i64 I] 62));have B0:Ext w3 E:=by rw[G];exact Ext.alloc _ _
     have XE:=ae (X3.o.trans B0);have e0:=B0.j9 K;have b0:E.cell? ⟨w3.heap.size,0,none⟩=some (.int .i64 r1):=by rw[G];simp
     have b1:E.cell? ⟨w3.heap.size,1,none⟩=some (.int .i64 I):=by rw[G];simp
     go_upto_region 5 with fail;rw[<-G];clear G K B0;have Ax:(k:Int)<(O:Int):=by omega
     have Fu:(0:Int)<=(k:Int):=by omega
     have k7:Ext E E.drew:=Ext.drew E;have k8:=ae (fun(w':World) (h:Ext E w')=>(⟨h.j9 e0,h.j9 b0,h.j9 b1,h⟩:w'.cell? ⟨db,He+k,none⟩=some (.int .i64 d)/\w'.cell? ⟨w3.heap.size,0,none⟩=some (.int .i64 r1)/\w'.cell? ⟨w3.heap.size,1,none⟩=some (.int .i64 I)/\Ext E w'));have Jb:=ae (show gD A X D k=((r1 == d)&&(I == 1))by rw[HG.o,U9];simp);cases zK:(r1 == d)
     all_goals
      cases An:(I == 1)
     all_goals
      have KN:=ae Jb.o;rw[zK,An]at KN
      go_region_held3 (fun w'=>w'.cell? ⟨db,He+k,none⟩=some (.int .i64 d)/\w'.cell? ⟨w3.heap.size,0,none⟩=some (.int .i64 r1)/\w'.cell? ⟨w3.heap.size,1,none⟩=some (.int .i64 I)/\Ext E w')
       (first
         | with_reducible exact k8.o _ k7)
       (first
         | (go_at_call 49
            (with_reducible refine(cO _ _).mono ?_)
            rintro e w5 ⟨rfl,AK⟩
            have k7:Ext E w5:=k7.trans AK)
         | fail)
      have X5:=ae (XE.o.trans k7);clear k7
     all_goals try(
      have HF:=ae (show dC A X D=false by rw[HE.o];exact dz hlt (by rw[KN.o];rfl));go_wp2_with fail;go_ret
      exact⟨ag HF.o.symm,y7.o.trans X5.o⟩)
     have HT:=ae (show(List.range (k+1)).all (gD A X D)=true by rw[ia,HA.o,KN.o];rfl);go_wp2_with fail
     go_roundg (g1-1)
     case measure=>have:=Z.o;omega
     case rel=>exact⟨k+1,ae (j1 Z.o),by go_num,HT,X5⟩
  ·have zQ:na=k:=by have:=Z.o;omega
   subst zQ;have p0:=am (HX.o.blk zf.o);go_wp2_with fail;go_ret;exact⟨ag (by rw[HE.o,HA.o]),y7.o.trans HX.o⟩
section
variable{w:World}{a:j6}{na ca:Nat}{b:j6}{nb cb:Nat}{c:j6}{nc cc:Nat}{A:j5}{B:j7}{C:j4}
theorem lA(h:EA w a na ca b nb cb c nc cc A B C)(ok:zM A B C=true){xa:j6}{xn FU:Nat}{X:j4}(hX:Rats w xa xn FU X):
 Calls Tryz.prog 177 #[DD a na ca b nb cb c nc cc,.slice xa xn FU] w fun e w'=>e=.returned (.bool (dZ A B C.length X))/\Ext w w':=by
 obtain⟨r1,r2,U,Q,J,O⟩:=cQ h ok;subst U;have y9:=Ext.alloc w (bj a nb ca b nb cb c nc cc);have y7:=ae y9;have H:=ae (h.ext y9);have DL:=ae (hX.ext y9);have zf:=ae (show(w.alloc (bj a nb ca b nb cb c nc cc)).heap[w.heap.size]?=some (.cells #[.slice a nb ca,.slice b nb cb,.slice c nc cc] 68 (0,0))from ai _ _ _ rfl);have Ba:=h.c.l8;have CY:=h.c.l9;have AS:=h.b.l8;have AD:=h.b.l9;have zK:=hX.l8;have zJ:=hX.l9;have HV:=ae (ej H.o);rw[ok]at HV;have HE:=ae (show dZ A B C.length X=(decide (xn=nc)&&(DN X&&dC A X B))by unfold dZ;rw[h.c.hlen,hX.hlen]);have I7:=ae J;clear h hX y9 ok Q J O;by_cases hn:xn=nc
 ·subst hn;have G:((xn:Int) == (xn:Int))=true:=by simp
  obtain⟨K,I⟩:=b9 (DN X);obtain⟨Z,Fv⟩:=b9 (dC A X B);have CU:=ae (show dZ A B C.length X=(K&&Z)by rw[HE.o,<-I,<-Fv];simp);have HN:=ae (fun(W:World) (hx:Ext (w.alloc (bj a nb ca b nb cb c xn cc)) W)=>jC (DL.o.ext hx));have HG:=ae (fun(W:World) (hx:Ext (w.alloc (bj a nb ca b nb cb c xn cc)) W)=>qZ (b:=b) (nb:=nb) (cb:=cb) (c:=c) (nc:=xn) (cc:=cc) (H.o.ext hx).a (DL.o.ext hx) (H.o.ext hx).b (ao _) I7.o);simp only[<-I]at HN;simp only[<-Fv]at HG;clear I Fv;cases K
  ·go_enter aeD,aeh
   go_wp2_with fail;refine HV.o.mono ?_;rintro e w1 ⟨rfl,hx⟩;have X1:=ae hx;clear hx;have p2:=aG (X1.o.blk zf.o);go_wp2_with fail;refine(HN.o _ X1.o).mono ?_;rintro e w2 ⟨rfl,hx⟩;go_wp2_with fail;go_ret;exact⟨ag CU.o.symm,y7.o.trans (X1.o.trans hx)⟩
  ·go_enter aeD,aeh
   go_wp2_with fail;refine HV.o.mono ?_;rintro e w1 ⟨rfl,hx⟩;have X1:=ae hx;clear hx;have p2:=aG (X1.o.blk zf.o);go_wp2_with fail;refine(HN.o _ X1.o).mono ?_;rintro e w2 ⟨rfl,hx⟩;have X2:=ae (X1.o.trans hx);clear hx p2;have p0:=am (X2.o.blk zf.o);have p1:=aD (X2.o.blk zf.o);have p2:=aG (X2.o.blk zf.o);go_wp2_with fail;refine(HG.o _ X2.o).mono ?_;rintro e w3 ⟨rfl,hx⟩;go_wp2_with fail;go_ret;exact⟨ag CU.o.symm,y7.o.trans (X2.o.trans hx)⟩
 ·have G:((xn:Int) == (nc:Int))=false:=by simp;omega
  have HF:=ae (show dZ A B C.length X=false by rw[HE.o,u' hn];rfl);go_enter aeD,aeh
  go_wp2_with fail;refine HV.o.mono ?_;rintro e w1 ⟨rfl,hx⟩;have X1:=ae hx;clear hx;have p2:=aG (X1.o.blk zf.o);go_wp2_with fail;go_ret;exact⟨ag HF.o.symm,y7.o.trans X1.o⟩
theorem uq{A:j5}{Y D:j4}{j:Nat}(h:none=zr (az (zP A j)) Y):bp A Y D j=false:=by unfold bp;rw[jv,<-h]
theorem ur{A:j5}{Y D:j4}{j:Nat}{v d:j8}(h:some v=zr (az (zP A j)) Y)(hd:D[j]?.getD (0,0)=d):bp A Y D j=decide (0<=zV d v):=by unfold bp;rw[jv,<-h,hd]
theorem tO(h:EA w a na ca b nb cb c nc cc A B C)(ok:zM A B C=true){ya:j6}{yn yc:Nat}{Y:j4}(hY:Rats w ya yn yc Y){da:j6}{Q dc:Nat}{D:j4}(Z:Rats w da Q dc D)(RM:nc<=Q):
 Calls Tryz.prog 174 #[DD a na ca b nb cb c nc cc,.slice ya yn yc,.slice da Q dc] w fun e w'=>e=.returned (.bool ((List.range C.length).all (bp A Y D)))/\Ext w w':=by
 obtain⟨r1,G,r3,r4,r5,r6⟩:=cQ h ok;subst r3;have y9:=Ext.alloc w (bj a nb ca b nb cb c nc cc);have y7:=ae y9;have H:=ae (h.ext y9);have I3:=ae (hY.ext y9);have EH:=ae (Z.ext y9);have zf:=ae (show(w.alloc (bj a nb ca b nb cb c nc cc)).heap[w.heap.size]?=some (.cells #[.slice a nb ca,.slice b nb cb,.slice c nc cc] 68 (0,0))from ai _ _ _ rfl);have Ba:=h.c.l8;have CY:=h.c.l9;have Ir:=Z.l8;have RO:=Z.l9;have A5:=ae ok;have Jd:=ae (fun j=>fI (iz (A:=A) (fun i hi=>(r5 i (j1 h.a.hlen)).2) j));have HE:=ae (show(List.range C.length).all (bp A Y D)=(List.range nc).all (bp A Y D)by rw[h.c.hlen]);have CG:=ae h.a.hlen;clear h hY Z y9 ok r4 r5 r6;go_enter Tryz.func174,Tryz.ntmps174
 go_wp2_with fail
 go_loopg [7] nc (fun gk ii wr=>∃k:Nat,b7 (gk+k=nc)/\ii=.int .i64 (k:Int)/\b7 ((List.range k).all (bp A Y D)=true)/\b7 (Ext (w.alloc (bj a nb ca b nb cb c nc cc)) wr))
 case atStart=>exact⟨0,ae e7,rfl,ae rfl,ae (Ext.refl _)⟩
 case round =>
  obtain⟨g1,o7⟩:=b9 gk;subst o7;obtain⟨o6,o5⟩:=b9 wr;subst o5;obtain⟨k,HK,rfl,HA,HX⟩:=hrel;have p0:=am (HX.o.blk zf.o);have p1:=aD (HX.o.blk zf.o);have p2:=aG (HX.o.blk zf.o);by_cases hlt:k<nc
  ·have Ea:=ae (wQ (H.o.ext HX.o) A5.o hlt);go_wp2_with fail;refine Ea.o.mono ?_;rintro e w2 ⟨⟨v2,rfl,ho⟩,hx⟩;obtain⟨a2,n2,c2,rfl,Gu⟩:=ho.var;have IZ:n2<=1048576:=by have h1:=Gu.o;rw[mT,CG.o]at h1;omega
   have X2:=ae (HX.o.trans hx);have U:=ae (lU ho.ints (Jd.o k) IZ (I3.o.ext X2.o));obtain⟨dv,DJ⟩:=b9 (zr (az (zP A k)) Y);rw[<-DJ]at U;have JS:=ae DJ;clear ho hx DJ p0 p1 p2;cases dv with
   | none =>
     rw[show z7 none=((0,0),false)from rfl]at U;have HF:=ae (show(List.range nc).all (bp A Y D)=false from dz hlt (uq JS.o));go_wp2_with fail;refine U.o.mono ?_;rintro e w3 ⟨rfl,O⟩;have X3:=ae (X2.o.trans O);clear O;obtain⟨E,I⟩:=b9 (w3.alloc (.cells #[.int .i64 0,.int .i64 0] 62));have XE:=ae (show Ext w3 E by rw[I];exact Ext.alloc _ _);go_upto_region 5 with fail;rw[<-I];clear I;have k7:Ext E E.drew:=Ext.drew E;refine rN (S:=(fun w'=>Ext E w')) e9 ?_ (fun l7=>?_)
     ·exact k7
     refine tk 0 ?_;refine tk 1 ?_;refine tk 2 ?_;refine sk 3 ?_;refine sk 4 ?_;refine sk 5 ?_;refine sk 6 ?_;refine sk 7 ?_;refine sk 8 ?_;refine sk 9 ?_;refine tk 10 ?_;refine Gh e9 ?_ _;go_wp2_with fail;go_ret;exact⟨ag (by rw[HE.o,HF.o]),((y7.o.trans X3.o).trans XE.o).trans k7⟩
   | some r =>
     obtain⟨r1,G⟩:=r;rw[show z7 (some (r1,G))=((r1,G),true)from rfl]at U;go_wp2_with fail;refine U.o.mono ?_;rintro e w3 ⟨rfl,O⟩;have X3:=ae (X2.o.trans O);clear O;obtain⟨E,I⟩:=b9 (w3.alloc (.cells #[.int .i64 r1,.int .i64 G] 62));obtain⟨J,Hz⟩:=b9 w3.heap.size;have B0:Ext w3 E:=by rw[I];exact Ext.alloc _ _
     have XE:=ae (X3.o.trans B0);have b0:E.cell? ⟨J,0,none⟩=some (.int .i64 r1):=by rw[I,Hz];simp
     have b1:E.cell? ⟨J,1,none⟩=some (.int .i64 G):=by rw[I,Hz];simp
     obtain⟨db,He,dx,dy,Y3,I2,e0,e1⟩:=(EH.o.ext XE.o).at (show k<Q by omega);subst Y3;obtain⟨cm,Iu⟩:=b9 (zV (dx,dy) (r1,G));have HB:=ae (show bp A Y D k=decide (0<=cm)by rw[Iu];exact ur JS.o I2);have FI:=ae (fun w'=>jf dx dy r1 G w');simp only[<-Iu]at FI;go_upto_region 5 with fail;rw[<-I,<-Hz];clear I Hz B0 Iu I2;have Ax:(k:Int)<(Q:Int):=by omega
     have Fu:(0:Int)<=(k:Int):=by omega
     have k7:Ext E E.drew:=Ext.drew E;have k8:=ae (fun(w':World) (h:Ext E w')=>(⟨h.j9 e0,h.j9 e1,h.j9 b0,h.j9 b1,h⟩:w'.cell? ⟨db,He+k*2,none⟩=some (.int .i64 dx)/\w'.cell? ⟨db,He+k*2+1,none⟩=some (.int .i64 dy)/\w'.cell? ⟨J,0,none⟩=some (.int .i64 r1)/\w'.cell? ⟨J,1,none⟩=some (.int .i64 G)/\Ext E w'));refine rN (S:=(fun w'=>w'.cell? ⟨db,He+k*2,none⟩=some (.int .i64 dx)/\w'.cell? ⟨db,He+k*2+1,none⟩=some (.int .i64 dy)/\w'.cell? ⟨J,0,none⟩=some (.int .i64 r1)/\w'.cell? ⟨J,1,none⟩=some (.int .i64 G)/\Ext E w')) e9 ?_ (fun l7=>?_)
     ·exact k8.o _ k7
     refine tk 0 ?_;refine tk 1 ?_;refine tk 2 ?_;refine tk 3 ?_;refine tk 4 ?_;refine tk 5 ?_;refine tk 6 ?_;refine tk 7 ?_;refine rd (i:=8) (h:=fun K hK=>?_);go_simp
     (go_at_call 219;refine(FI.o _).mono ?_;rintro e w4 ⟨rfl,zX⟩;have k7:=k7.trans zX)
     go_wp2_with fail;refine hK.out _ _ ?_ (fun l7=>?_)
     ·exact k8.o _ k7
     clear hK K
     try simp only[Act.put,sA,sB,sC]
     refine tk 9 ?_;refine tk 10 ?_;refine Gh e9 ?_ _;have X5:=ae (XE.o.trans k7);clear k7;by_cases AB:cm<0
     ·have HF:=ae (show(List.range nc).all (bp A Y D)=false from dz hlt (by rw[HB.o];simp;omega));go_wp2_with fail;go_ret;exact⟨ag (by rw[HE.o,HF.o]),y7.o.trans X5.o⟩
     ·have HT:=ae (show(List.range (k+1)).all (bp A Y D)=true by rw[ia,HA.o,HB.o];simp;omega);go_wp2_with fail
      go_roundg (g1-1)
      case measure=>have:=HK.o;omega
      case rel=>exact⟨k+1,ae (j1 HK.o),by go_num,HT,X5⟩
  ·have zQ:nc=k:=by have:=HK.o;omega
   subst zQ;go_wp2_with fail;go_ret;exact⟨ag (by rw[HE.o,HA.o]),y7.o.trans HX.o⟩
end
