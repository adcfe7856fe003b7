import Derived.Test.YtdadoignenffgaaGreatDoorSvAllG12
import Derived.Test.YtdadoignenffgaaGreatDoorSvAllG1
import Derived.Deep.RegionHeld3
import Derived.Test.YtdadoignenffgaaGreatDoorSvAllG8
import Derived.Test.YtdadoignenffgaaGreatDoorSvAllG7
import Derived.Deep.DeepCutAuto
set_option linter.unusedVariables false
set_option linter.unusedSimpArgs false
namespace Go.Proofs.YtdadoignenffgaaGreatDoor
variable{w:World}{a:j6}{n k:Nat}{C:j7}{l:j4}
set_option maxHeartbeats 16000000
set_option maxRecDepth 100000
open Go.RowKit
theorem kg{k1 k2:Int}{b:j6}{cap n' G:Nat}{A B:j4}(h:Rats w a n cap A)(h':Rats w b n' G B)(hbig:n<=1048576):
 Calls Tryz.prog 251 #[.slice a n cap,wk k1 k2,.slice b n' G] w fun e w'=>(∃v,e=.returned (.tuple #[v,.bool (xP A (k1,k2) B).isSome])/\l9 w' w.heap.size v ((xP A (k1,k2) B).getD []))/\Ext w w':=by
 have HL:=ae h.hlen;have Ll:=ae h'.hlen;have o0:=h.o0;have l8:=h.l8;have Ka:=h'.o0;have Kp:=h'.l8;have HA:=ae h;have HB':=ae h';have HX:=ae (Ext.alloc w (.cells #[.int .i64 k1,.int .i64 k2] 62));clear h h';by_cases hne:n=n'
 ·subst hne;have HS:=ae (show xP A (k1,k2) B=runT (BN A (k1,k2) B) n by unfold xP;rw[HL.o,Ll.o,if_pos rfl]);have HO:=ae (l9.made (w.alloc (.cells #[.int .i64 k1,.int .i64 k2] 62)) (w.heap.size+1) e8);go_enter Tryz.func251,Tryz.ntmps251
  go_wp2_with fail
  go_loopg [8,22] n (fun gk o i wr=>∃(k:Nat) (a1:j6) (O p1:Nat) (r:j4),b7 (gk+k=n)/\i=.int .i64 (k:Int)/\o=.slice a1 O p1/\b7 (runT (BN A (k1,k2) B) k=some r)/\b7 (l9 wr (w.heap.size+1) (.slice a1 O p1) r)/\b7 (Ext (w.alloc (.cells #[.int .i64 k1,.int .i64 k2] 62)) wr))
  case atStart=>exact⟨0,_,_,_,[],ae e7,rfl,rfl,ae rfl,ae (by simpa using HO.o),ae (Ext.alloc _ _)⟩
  case round =>
   obtain⟨k,a1,O,p1,r,HK,rfl,rfl,HR,vw,vh⟩:=hrel;have Cq:=vh.o.size;rw[World.size_alloc]at Cq;by_cases hlt:k<n
   ·have E7:wr.cell? ⟨w.heap.size,0,none⟩=some (.int .i64 k1):=vh.o.j9 e8;have E6:wr.cell? ⟨w.heap.size,1,none⟩=some (.int .i64 k2):=vh.o.j9 e8;obtain⟨ab,Z,ax,ay,ha,GD,U,W⟩:=((HA.o.ext HX.o).ext vh.o).at hlt;obtain⟨bb,yR,bx,E,hb,yi,CA,Cz⟩:=((HB'.o.ext HX.o).ext vh.o).at hlt;subst ha hb;have Vi:=ae GD;have wE:=ae yi;obtain⟨p,q,one,hm⟩:∃p q ok,mulR (k1,k2) (bx,E)=((p,q),ok):=⟨_,_,_,rfl⟩;have HM:=ae hm;obtain⟨p2,q2,two,EW⟩:∃u v ok,we (ax,ay) (p,q)=((u,v),ok):=⟨_,_,_,rfl⟩;have yX:=ae EW;clear GD yi hm EW;go_upto_region 7 with fail
    go_cut [10,11] (fun sx so wx=>∃g:Nat,sx=.pointer (some ⟨g,0,none⟩)/\so=.bool one/\b7 (ag wr wx g p q))
    case first =>
     have k7:Ext wr wr.drew:=Ext.drew wr;have Q:Ext wr (wr.alloc (.cells #[.int .i64 0,.int .i64 0] 62)).drew:=(Ext.alloc _ _).trans (Ext.drew _);have k8:=ae (fun(w':World) (h:Ext wr w')=>(⟨h.j9 E7,h.j9 E6,h.j9 CA,h.j9 Cz,h⟩:w'.cell? ⟨w.heap.size,0,none⟩=some (.int .i64 k1)/\w'.cell? ⟨w.heap.size,1,none⟩=some (.int .i64 k2)/\w'.cell? ⟨bb,yR+k*2,none⟩=some (.int .i64 bx)/\w'.cell? ⟨bb,yR+k*2+1,none⟩=some (.int .i64 E)/\Ext wr w'))
     go_region_held3 (fun w'=>w'.cell? ⟨w.heap.size,0,none⟩=some (.int .i64 k1)/\w'.cell? ⟨w.heap.size,1,none⟩=some (.int .i64 k2)/\w'.cell? ⟨bb,yR+k*2,none⟩=some (.int .i64 bx)/\w'.cell? ⟨bb,yR+k*2+1,none⟩=some (.int .i64 E)/\Ext wr w')
      (first
        | with_reducible exact k8.o _ k7
        | with_reducible exact k8.o _ Q
        | with_reducible exact k8.o _ ((k7.setCell (by first|(simp;done)|(simp;omega)) _).setCell (by first|(simp;done)|(simp;omega)) _)
        | with_reducible exact k8.o _ (k7.trans (Ext.alloc _ _))
        | with_reducible exact k8.o _ (p4.put _ _).ext)
      (first
        | (go_at_call 237
           (with_reducible refine(oY k1 k2 bx E _).mono ?_)
           rw[HM.o];rintro e w3 ⟨rfl,K⟩
           first|(with_reducible have p4:=ag.grow p4 K)|(with_reducible have p4:=ag.vm K)|(with_reducible have p4:=ag.vq k7 K)|skip
           first|(have Ag:=p4.c0;have Af:=p4.c1;have Bb:=p4.free)|skip
           have k7:Ext wr w3:=by first|with_reducible exact k7.trans K|with_reducible exact Q.trans K|with_reducible exact(k7.trans (Ext.alloc _ _)).trans K
           have xu:=k7.size)
        | fail)
     all_goals(go_wp2_with fail;go_meet;first|exact⟨_,rfl,rfl,ae (p4.put _ _)⟩|exact⟨_,rfl,rfl,ae (ag.new k7 _ _)⟩|exact⟨_,rfl,rfl,ae (ag.new' k7 _ _ e8)⟩)
    obtain⟨g,rfl,rfl,I⟩:=hcut;have g0:=I.o.c0;have g1:=I.o.c1;replace U:=I.o.ext.j9 U;replace W:=I.o.ext.j9 W;clear E7 E6 CA Cz;go_upto_region 8 with fail
    go_cut [12,13] (fun sx so wx=>∃g2:Nat,sx=.pointer (some ⟨g2,0,none⟩)/\so=.bool two/\b7 (ag wc wx g2 p2 q2))
    case first =>
     have k7:Ext wc wc.drew:=Ext.drew wc;have Q:Ext wc (wc.alloc (.cells #[.int .i64 0,.int .i64 0] 62)).drew:=(Ext.alloc _ _).trans (Ext.drew _);have k8:=ae (fun(w':World) (h:Ext wc w')=>(⟨h.j9 U,h.j9 W,h.j9 g0,h.j9 g1,h⟩:w'.cell? ⟨ab,Z+k*2,none⟩=some (.int .i64 ax)/\w'.cell? ⟨ab,Z+k*2+1,none⟩=some (.int .i64 ay)/\w'.cell? ⟨g,0,none⟩=some (.int .i64 p)/\w'.cell? ⟨g,1,none⟩=some (.int .i64 q)/\Ext wc w'))
     go_region_held3 (fun w'=>w'.cell? ⟨ab,Z+k*2,none⟩=some (.int .i64 ax)/\w'.cell? ⟨ab,Z+k*2+1,none⟩=some (.int .i64 ay)/\w'.cell? ⟨g,0,none⟩=some (.int .i64 p)/\w'.cell? ⟨g,1,none⟩=some (.int .i64 q)/\Ext wc w')
      (first
        | with_reducible exact k8.o _ k7
        | with_reducible exact k8.o _ Q
        | with_reducible exact k8.o _ ((k7.setCell (by first|(simp;done)|(simp;omega)) _).setCell (by first|(simp;done)|(simp;omega)) _)
        | with_reducible exact k8.o _ (k7.trans (Ext.alloc _ _))
        | with_reducible exact k8.o _ (p4.put _ _).ext)
      (first
        | (go_at_call 76
           (with_reducible refine(iM ax ay p q _).mono ?_)
           rw[yX.o];rintro e w4 ⟨rfl,J⟩
           first|(with_reducible have p4:=ag.grow p4 J)|(with_reducible have p4:=ag.vm J)|(with_reducible have p4:=ag.vq k7 J)|skip
           first|(have Ag:=p4.c0;have Af:=p4.c1;have Bb:=p4.free)|skip
           have k7:Ext wc w4:=by first|with_reducible exact k7.trans J|with_reducible exact Q.trans J|with_reducible exact(k7.trans (Ext.alloc _ _)).trans J
           have xu:=k7.size)
        | fail)
     all_goals(go_wp2_with fail;go_meet;first|exact⟨_,rfl,rfl,ae (p4.put _ _)⟩|exact⟨_,rfl,rfl,ae (ag.new k7 _ _)⟩|exact⟨_,rfl,rfl,ae (ag.new' k7 _ _ e8)⟩)
    obtain⟨g2,rfl,rfl,yN⟩:=hcut;have X2:=ae ((vh.o.trans I.o.ext).trans yN.o.ext);have wG:=ae ((vw.o.ext I.o.ext).ext yN.o.ext);have h0:=yN.o.c0;have h1:=yN.o.c1;have HF:=ae (show BN A (k1,k2) B k=if(one&&two)=true then some (p2,q2) else none by unfold BN;rw[Vi.o,wE.o,HM.o];simp only;rw[yX.o];simp only[Bool.and_eq_true]);clear U W g0 g1;cases CC:(one&&two)
    ·have HN:=ae (show runT (BN A (k1,k2) B) n=none from fQ HR.o (by rw[HF.o,CC];rfl) hlt);cases one
     case' true=>(have h2:two=false:=by simpa using CC);subst h2
     all_goals
      clear CC;go_wp2_with fail;refine bodyPost_ret (v:=.tuple #[.slice none 0 0,.bool false]) (by simp[results,Tryz.results251,go_sem]) rfl ⟨⟨.slice none 0 0,by rw[HS.o,HN.o];rfl,by rw[HS.o,HN.o];exact l9.nil _ _⟩,HX.o.trans X2.o⟩
    ·obtain⟨rfl,rfl⟩:one=true/\two=true:=by simpa using CC
     have Ai:=ae (ec (x:=(p2,q2)) HR.o (by rw[HF.o];rfl));have xE:=ae (dp HR.o);have Di:=X2.o.size;rw[World.size_alloc]at Di;clear CC
     go_wp2_with (first
      | (at_builtin;refine aI rfl _ _ rfl (w.heap.size+1) (.slice a1 O p1) _ rfl (wG.o.ext (Ext.alloc _ _)) _ 1 _ [(p2,q2)] rfl (Rats.one' _ _ _ _ _ e8) (by rw[xE.o];omega) (by simp;omega) ?_;intro v2 w4 ho hg l7;obtain⟨a2,n2,c2,rfl,ED⟩:=ho.var;have wV:=ae ho;have X5:=ae (ak (X2.o.trans (Ext.alloc _ _)) hg (fun j hj=>by have:=(wG.o.lt j hj).1;simpa using this));clear ho hg l7))
     go_roundg (gk-1)
     case measure=>have:=HK.o;omega
     case rel=>exact⟨k+1,a2,n2,c2,_,ae (j1 HK.o),by go_num,rfl,Ai,wV,X5⟩
   ·have vZ:k=n:=by have:=HK.o;omega
    subst vZ;go_wp2_with fail;refine bodyPost_ret (v:=.tuple #[.slice a1 O p1,.bool true]) (by simp[results,Tryz.results251,go_sem]) rfl ⟨⟨.slice a1 O p1,by rw[HS.o,HR.o];rfl,by rw[HS.o,HR.o];exact vw.o.mono (Nat.le_succ _)⟩,HX.o.trans vh.o⟩
 ·have HN:=ae (show xP A (k1,k2) B=none by unfold xP;rw[HL.o,Ll.o,if_neg hne]);go_enter Tryz.func251,Tryz.ntmps251
  go_wp2_with fail;refine bodyPost_ret (v:=.tuple #[.slice none 0 0,.bool false]) (by simp[results,Tryz.results251,go_sem]) rfl ⟨⟨.slice none 0 0,by rw[HN.o];rfl,by rw[HN.o];exact l9.nil _ _⟩,HX.o⟩
theorem cv(n:Int)(w:World):Calls Tryz.prog 71 #[.int .i64 n] w fun e w'=>e=.returned (wk n 1)/\Ext w w':=by
 have HX:=ae (Ext.alloc w (.cells #[.int .i64 n,.int .i64 1] 62));go_enter Tryz.func71,Tryz.ntmps71
 go_wp2
 refine bodyPost_ret (v:=wk n 1) (by simp[results,Tryz.results71,go_sem]) rfl ⟨rfl,HX.o⟩
theorem cl(n:Int)(w:World):Calls Tryz.prog 49 #[.int .i64 n] w fun e w'=>e=.returned (wk n 1)/\Ext w w':=by
 have HX:=ae (Ext.alloc w (.cells #[.int .i64 n,.int .i64 1] 62));go_enter Tryz.func49,Tryz.ntmps49
 go_wp2
 refine bodyPost_ret (v:=wk n 1) (by simp[results,Tryz.results49,go_sem]) rfl ⟨rfl,HX.o⟩
theorem kv(h:k<C.length):ar (C.take k)++[(C[k]?.getD 0,1)]=ar (C.take (k+1)):=by
 rw[cH h];simp[ar]
def dQ(C:j7):j4:=if Ba C=true then ar C else []
theorem oV{cap:Nat}(h:Ints w a n cap C)(hbig:n<=1048576):
 Calls Tryz.prog 234 #[.slice a n cap] w fun e w'=>(∃v,e=.returned (.tuple #[v,.bool (Ba C)])/\l9 w' w.heap.size v (dQ C))/\Ext w w':=by
 have HL:=ae h.hlen;have o0:=h.o0;have l8:=h.l8;have HC:=ae h;clear h;have HO:=ae (l9.made w w.heap.size (Nat.le_refl _));go_enter Tryz.func234,Tryz.ntmps234
 go_wp2_with fail
 go_loopg [4,10] n (fun gk o i wr=>∃(k:Nat) (a1:j6) (G p1:Nat),b7 (gk+k=n)/\i=.int .i64 (k:Int)/\o=.slice a1 G p1/\b7 (Ba (C.take k)=true)/\b7 (l9 wr w.heap.size (.slice a1 G p1) (ar (C.take k)))/\b7 (Ext w wr))
 case atStart=>exact⟨0,_,_,_,ae e7,rfl,rfl,ae rfl,HO,ae (Ext.alloc _ _)⟩
 case round =>
  obtain⟨k,a1,G,p1,K,rfl,rfl,HF,vw,vh⟩:=hrel;by_cases hlt:k<n
  ·obtain⟨b,off,ha,hc⟩:=(HC.o.ext vh.o).at hlt;subst ha;obtain⟨c,E⟩:=b9 (C[k]?.getD 0);rw[<-E]at hc;have Ma:=ae E;have Cq:=vh.o.size;clear E;have I:=ae (show k<C.length by have:=HL.o;omega);cases wq:r' c (-1000000000) 1000000000
   ·have HN:=ae (show Ba C=false by
     rw[<-Bool.not_eq_true];intro hh;have:=qW (k:=k) hh I.o
     rw[<-Ma.o,wq]at this;cases this)
    have HI:=ae (aJ c (-1000000000) 1000000000 wr);rw[wq]at HI;clear wq;go_wp2_with fail;refine HI.o.mono ?_;rintro e w2 ⟨rfl,rfl⟩;go_wp2_with fail;refine bodyPost_ret (v:=.tuple #[.slice none 0 0,.bool false]) (by simp[results,Tryz.results234,go_sem]) rfl ⟨⟨.slice none 0 0,by rw[HN.o],by unfold dQ;rw[HN.o];exact l9.nil _ _⟩,vh.o⟩
   ·have Sc:=ae (show Ba (C.take (k+1))=true by
     unfold Ba;rw[cH I.o,List.all_append];have:=HF.o;unfold Ba at this;rw[this,<-Ma.o]
     simp only[List.all_cons,List.all_nil,wq,Bool.and_self])
    have HI:=ae (aJ c (-1000000000) 1000000000 wr);rw[wq]at HI;clear wq;go_wp2_with fail;refine HI.o.mono ?_;rintro e w2 ⟨rfl,rfl⟩;have H6:=ae (show(ar (C.take k)).length=k by rw[et,List.length_take];have:=I.o;omega)
    go_wp2_with (first
     | (go_at_call 71;refine(cv c _).mono ?_;rintro e w3 ⟨rfl,J⟩;have U:=ae J;have O:=ae (vw.o.ext J);have BP:=J.size;clear J)
     | (at_builtin;refine aI rfl _ _ rfl w.heap.size (.slice a1 G p1) _ rfl (O.o.ext (Ext.alloc _ _)) _ 1 _ [(c,1)] rfl (Rats.one' _ _ _ _ _ e8) (by rw[H6.o];omega) (by simp;omega) ?_;intro v2 w4 ho hg l7;obtain⟨a2,Z,c2,rfl,ED⟩:=ho.var;have Q:=ae ho;have X4:=ae (ak ((vh.o.trans U.o).trans (Ext.alloc _ _)) hg (fun j hj=>(O.o.lt j hj).1));clear ho hg l7))
    go_roundg (gk-1)
    case measure=>have:=K.o;omega
    case rel=>exact⟨k+1,a2,Z,c2,ae (j1 K.o),by go_num,rfl,Sc,ae (by have:=Q.o;rw[Ma.o,kv I.o]at this;exact this),X4⟩
  ·have W:k=n:=by have:=K.o;omega
   subst W;have HT:=ae (show C.take k=C from List.take_of_length_le (by rw[HL.o];exact Nat.le_refl _));go_wp2_with fail;refine bodyPost_ret (v:=.tuple #[.slice a1 G p1,.bool true]) (by simp[results,Tryz.results234,go_sem]) rfl ⟨⟨.slice a1 G p1,?_,?_⟩,vh.o⟩
   ·have:=HF.o;rw[HT.o]at this;rw[this]
   ·have h1:=HF.o;have h2:=vw.o;rw[HT.o]at h1 h2;unfold dQ;rw[if_pos h1];exact h2
theorem gV{cap:Nat}(h:Ints w a n cap C)(E:n<=1048576):
 Calls Tryz.prog 193 #[.slice a n cap] w fun e w'=>(∃v,e=.returned v/\l9 w' w.heap.size v (dQ C))/\Ext w w':=by
 have HI:=ae (oV h E);clear h;go_enter Tryz.func193,Tryz.ntmps193
 go_wp2_with fail;refine HI.o.mono ?_;rintro e w1 ⟨⟨v,rfl,G⟩,hx⟩;have HO:=ae G;have HX:=ae hx;clear G hx;go_wp2_with fail;go_ret;exact⟨⟨v,rfl,HO.o⟩,HX.o⟩
def xC(l:j4):Bool:=l.all o9
theorem tp{p:j8->Bool}(h:k<l.length):(l.take (k+1)).all p=((l.take k).all p&&p (l[k]?.getD (0,0))):=by
 rw[fs h];simp
theorem rQ{p:j8->Bool}(h:k<l.length)(hb:p (l[k]?.getD (0,0))=false):l.all p=false:=by
 rw[List.all_eq_false];exact⟨l[k],List.getElem_mem h,by rw[List.getElem?_eq_getElem h]at hb;simpa using hb⟩
theorem iY{cap:Nat}(h:Rats w a n cap l):
 Calls Tryz.prog 112 #[.slice a n cap] w fun e w'=>e=.returned (.bool (xC l))/\Ext w w':=by
 have l8:=h.l8;have o0:=h.o0;have HL:=ae h.hlen;have HI:=ae h;clear h;go_enter Tryz.func112,Tryz.ntmps112
 go_wp2_with fail
 go_loopg [3] n (fun gk ii wr=>∃k:Nat,b7 (gk+k=n)/\ii=.int .i64 (k:Int)/\b7 ((l.take k).all o9=true)/\b7 (Ext w wr))
 case atStart=>exact⟨0,ae e7,rfl,ae rfl,ae (Ext.refl _)⟩
 case round =>
  obtain⟨g1,J⟩:=b9 gk;subst J;obtain⟨I,K⟩:=b9 wr;subst K;obtain⟨k,G,rfl,HA,HX⟩:=hrel;by_cases hlt:k<n
  ·obtain⟨b,off,x,y,rfl,E,wK,xB⟩:=(HI.o.ext HX.o).at hlt;have HC:=ae (aw x y I);cases hb:o9 (x,y)
   all_goals
    rw[hb]at HC
   ·have HF:=ae (show xC l=false from rQ (by rw[HL.o];exact hlt) (by rw[E];exact hb));clear E hb;go_wp2_with fail;refine HC.o.mono ?_;rintro e w2 ⟨rfl,vL⟩;go_wp2_with fail;go_ret;exact⟨ai HF.o.symm,HX.o.trans vL⟩
   ·have HT:=ae (show(l.take (k+1)).all o9=true by rw[tp (by rw[HL.o];exact hlt),HA.o,E,hb];rfl);clear E hb;go_wp2_with fail;refine HC.o.mono ?_;rintro e w2 ⟨rfl,vL⟩;go_wp2_with fail
    go_roundg (g1-1)
    case measure=>have:=G.o;omega
    case rel=>exact⟨k+1,ae (j1 G.o),by go_num,HT,ae (HX.o.trans vL)⟩
  ·have HT:=ae (show l.take k=l from List.take_of_length_le (by rw[HL.o];have:=G.o;omega));go_wp2_with fail;go_ret;exact⟨ai (by have:=HA.o;rw[HT.o]at this;exact this.symm),HX.o⟩
end Go.Proofs.YtdadoignenffgaaGreatDoor
