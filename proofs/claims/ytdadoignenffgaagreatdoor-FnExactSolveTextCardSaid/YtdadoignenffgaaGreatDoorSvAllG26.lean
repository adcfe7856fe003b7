import Derived.Test.YtdadoignenffgaaGreatDoorSvAllG25
import Derived.Test.YtdadoignenffgaaGreatDoorSvAllG22
import Derived.Test.YtdadoignenffgaaGreatDoorSvAllG18
import Derived.Test.YtdadoignenffgaaGreatDoorSvAllG19
set_option linter.unusedVariables false
set_option linter.unusedSimpArgs false
namespace Go.Proofs.YtdadoignenffgaaGreatDoor
variable{w:World}{a:j6}{n:Nat}{cost:j4}
set_option maxHeartbeats 16000000
set_option maxRecDepth 100000
open Go.RowKit
theorem ku{k1 k2:Int}{b:j6}{cap n' G:Nat}{A B:j4}(h:Rats w a n cap A)(h':Rats w b n' G B)(hbig:n<=1048576):
 Calls Tryz.prog 241 #[.slice a n cap,wk k1 k2,.slice b n' G] w fun e w'=>(∃v,e=.returned (.tuple #[v,.bool (xP A (k1,k2) B).isSome])/\l9 w' w.heap.size v ((xP A (k1,k2) B).getD []))/\Ext w w':=by
 have HL:=ae h.hlen;have Ll:=ae h'.hlen;have o0:=h.o0;have l8:=h.l8;have Ka:=h'.o0;have Kp:=h'.l8;have HA:=ae h;have HB':=ae h';have HX:=ae (Ext.alloc w (.cells #[.int .i64 k1,.int .i64 k2] 62));clear h h';by_cases hne:n=n'
 ·subst hne;have HS:=ae (show xP A (k1,k2) B=runT (BN A (k1,k2) B) n by unfold xP;rw[HL.o,Ll.o,if_pos rfl]);have HO:=ae (l9.made (w.alloc (.cells #[.int .i64 k1,.int .i64 k2] 62)) (w.heap.size+1) e8);go_enter Tryz.func241,Tryz.ntmps241
  go_wp2_with fail
  go_loopg [8,9] n (fun gk o i wr=>∃(k:Nat) (a1:j6) (n1 p1:Nat) (r:j4),b7 (gk+k=n)/\i=.int .i64 (k:Int)/\o=.slice a1 n1 p1/\b7 (runT (BN A (k1,k2) B) k=some r)/\b7 (l9 wr (w.heap.size+1) (.slice a1 n1 p1) r)/\b7 (Ext (w.alloc (.cells #[.int .i64 k1,.int .i64 k2] 62)) wr))
  case atStart=>exact⟨0,_,_,_,[],ae e7,rfl,rfl,ae rfl,ae (by simpa using HO.o),ae (Ext.alloc _ _)⟩
  case round =>
   obtain⟨k,a1,n1,p1,r,HK,rfl,rfl,HR,vw,vh⟩:=hrel;have Cq:=vh.o.size;rw[World.size_alloc]at Cq;by_cases hlt:k<n
   ·have E7:wr.cell? ⟨w.heap.size,0,none⟩=some (.int .i64 k1):=vh.o.j9 e8;have E6:wr.cell? ⟨w.heap.size,1,none⟩=some (.int .i64 k2):=vh.o.j9 e8;obtain⟨ab,W,ax,ay,ha,GD,Q,U⟩:=((HA.o.ext HX.o).ext vh.o).at hlt;obtain⟨bb,Z,bx,E,hb,yi,CA,Cz⟩:=((HB'.o.ext HX.o).ext vh.o).at hlt;subst ha hb;have Vi:=ae GD;have wE:=ae yi;obtain⟨p,q,one,hm⟩:∃p q ok,mulR (k1,k2) (bx,E)=((p,q),ok):=⟨_,_,_,rfl⟩;have HM:=ae hm;obtain⟨p2,q2,two,EW⟩:∃u v ok,we (ax,ay) (p,q)=((u,v),ok):=⟨_,_,_,rfl⟩;have yX:=ae EW;clear GD yi hm EW;go_upto_region 7 with fail
    go_cut [10,11] (fun sx so wx=>∃g:Nat,sx=.pointer (some ⟨g,0,none⟩)/\so=.bool one/\b7 (ag wr wx g p q))
    case first =>
     have k7:Ext wr wr.drew:=Ext.drew wr;have O:Ext wr (wr.alloc (.cells #[.int .i64 0,.int .i64 0] 62)).drew:=(Ext.alloc _ _).trans (Ext.drew _);have k8:=ae (fun(w':World) (h:Ext wr w')=>(⟨h.j9 E7,h.j9 E6,h.j9 CA,h.j9 Cz,h⟩:w'.cell? ⟨w.heap.size,0,none⟩=some (.int .i64 k1)/\w'.cell? ⟨w.heap.size,1,none⟩=some (.int .i64 k2)/\w'.cell? ⟨bb,Z+k*2,none⟩=some (.int .i64 bx)/\w'.cell? ⟨bb,Z+k*2+1,none⟩=some (.int .i64 E)/\Ext wr w'))
     go_region_held3 (fun w'=>w'.cell? ⟨w.heap.size,0,none⟩=some (.int .i64 k1)/\w'.cell? ⟨w.heap.size,1,none⟩=some (.int .i64 k2)/\w'.cell? ⟨bb,Z+k*2,none⟩=some (.int .i64 bx)/\w'.cell? ⟨bb,Z+k*2+1,none⟩=some (.int .i64 E)/\Ext wr w')
      (first
        | with_reducible exact k8.o _ k7
        | with_reducible exact k8.o _ O
        | with_reducible exact k8.o _ ((k7.setCell (by first|(simp;done)|(simp;omega)) _).setCell (by first|(simp;done)|(simp;omega)) _)
        | with_reducible exact k8.o _ (k7.trans (Ext.alloc _ _))
        | with_reducible exact k8.o _ (p4.put _ _).ext)
      (first
        | (go_at_call 223
           (with_reducible refine(pQ k1 k2 bx E _).mono ?_)
           rw[HM.o];rintro e w3 ⟨rfl,K⟩
           first|(with_reducible have p4:=ag.grow p4 K)|(with_reducible have p4:=ag.vm K)|(with_reducible have p4:=ag.vq k7 K)|skip
           first|(have Ag:=p4.c0;have Af:=p4.c1;have Bb:=p4.free)|skip
           have k7:Ext wr w3:=by first|with_reducible exact k7.trans K|with_reducible exact O.trans K|with_reducible exact(k7.trans (Ext.alloc _ _)).trans K
           have xu:=k7.size)
        | fail)
     all_goals(go_wp2_with fail;go_meet;first|exact⟨_,rfl,rfl,ae (p4.put _ _)⟩|exact⟨_,rfl,rfl,ae (ag.new k7 _ _)⟩|exact⟨_,rfl,rfl,ae (ag.new' k7 _ _ e8)⟩)
    obtain⟨g,rfl,rfl,I⟩:=hcut;have g0:=I.o.c0;have g1:=I.o.c1;replace Q:=I.o.ext.j9 Q;replace U:=I.o.ext.j9 U;clear E7 E6 CA Cz;go_upto_region 8 with fail
    go_cut [12,13] (fun sx so wx=>∃g2:Nat,sx=.pointer (some ⟨g2,0,none⟩)/\so=.bool two/\b7 (ag wc wx g2 p2 q2))
    case first =>
     have k7:Ext wc wc.drew:=Ext.drew wc;have O:Ext wc (wc.alloc (.cells #[.int .i64 0,.int .i64 0] 62)).drew:=(Ext.alloc _ _).trans (Ext.drew _);have k8:=ae (fun(w':World) (h:Ext wc w')=>(⟨h.j9 Q,h.j9 U,h.j9 g0,h.j9 g1,h⟩:w'.cell? ⟨ab,W+k*2,none⟩=some (.int .i64 ax)/\w'.cell? ⟨ab,W+k*2+1,none⟩=some (.int .i64 ay)/\w'.cell? ⟨g,0,none⟩=some (.int .i64 p)/\w'.cell? ⟨g,1,none⟩=some (.int .i64 q)/\Ext wc w'))
     go_region_held3 (fun w'=>w'.cell? ⟨ab,W+k*2,none⟩=some (.int .i64 ax)/\w'.cell? ⟨ab,W+k*2+1,none⟩=some (.int .i64 ay)/\w'.cell? ⟨g,0,none⟩=some (.int .i64 p)/\w'.cell? ⟨g,1,none⟩=some (.int .i64 q)/\Ext wc w')
      (first
        | with_reducible exact k8.o _ k7
        | with_reducible exact k8.o _ O
        | with_reducible exact k8.o _ ((k7.setCell (by first|(simp;done)|(simp;omega)) _).setCell (by first|(simp;done)|(simp;omega)) _)
        | with_reducible exact k8.o _ (k7.trans (Ext.alloc _ _))
        | with_reducible exact k8.o _ (p4.put _ _).ext)
      (first
        | (go_at_call 48
           (with_reducible refine(gY ax ay p q _).mono ?_)
           rw[yX.o];rintro e w4 ⟨rfl,J⟩
           first|(with_reducible have p4:=ag.grow p4 J)|(with_reducible have p4:=ag.vm J)|(with_reducible have p4:=ag.vq k7 J)|skip
           first|(have Ag:=p4.c0;have Af:=p4.c1;have Bb:=p4.free)|skip
           have k7:Ext wc w4:=by first|with_reducible exact k7.trans J|with_reducible exact O.trans J|with_reducible exact(k7.trans (Ext.alloc _ _)).trans J
           have xu:=k7.size)
        | fail)
     all_goals(go_wp2_with fail;go_meet;first|exact⟨_,rfl,rfl,ae (p4.put _ _)⟩|exact⟨_,rfl,rfl,ae (ag.new k7 _ _)⟩|exact⟨_,rfl,rfl,ae (ag.new' k7 _ _ e8)⟩)
    obtain⟨g2,rfl,rfl,yN⟩:=hcut;have X2:=ae ((vh.o.trans I.o.ext).trans yN.o.ext);have wG:=ae ((vw.o.ext I.o.ext).ext yN.o.ext);have h0:=yN.o.c0;have h1:=yN.o.c1;have HF:=ae (show BN A (k1,k2) B k=if(one&&two)=true then some (p2,q2) else none by unfold BN;rw[Vi.o,wE.o,HM.o];simp only;rw[yX.o];simp only[Bool.and_eq_true]);clear Q U g0 g1;cases CC:(one&&two)
    ·have HN:=ae (show runT (BN A (k1,k2) B) n=none from fQ HR.o (by rw[HF.o,CC];rfl) hlt);cases one
     case' true=>(have h2:two=false:=by simpa using CC);subst h2
     all_goals
      clear CC;go_wp2_with fail;have WO:=X2.o.size;rw[World.size_alloc]at WO
      go_ret2
      exact⟨⟨_,eA (by rw[HS.o,HN.o];rfl),by rw[HS.o,HN.o];exact l9.made _ _ e7⟩,HX.o.trans (X2.o.trans (Ext.alloc _ _))⟩
    ·obtain⟨rfl,rfl⟩:one=true/\two=true:=by simpa using CC
     have Ai:=ae (ec (x:=(p2,q2)) HR.o (by rw[HF.o];rfl));have xE:=ae (dp HR.o);have Di:=X2.o.size;rw[World.size_alloc]at Di;clear CC
     go_wp2_with (first
      | (at_builtin;refine aI rfl _ _ rfl (w.heap.size+1) (.slice a1 n1 p1) _ rfl (wG.o.ext (Ext.alloc _ _)) _ 1 _ [(p2,q2)] rfl (Rats.one' _ _ _ _ _ e8) (by rw[xE.o];omega) (by simp;omega) ?_;intro v2 w4 ho hg l7;obtain⟨a2,n2,c2,rfl,ED⟩:=ho.var;have wV:=ae ho;have X5:=ae (ak (X2.o.trans (Ext.alloc _ _)) hg (fun j hj=>by have:=(wG.o.lt j hj).1;simpa using this));clear ho hg l7))
     go_roundg (gk-1)
     case measure=>have:=HK.o;omega
     case rel=>exact⟨k+1,a2,n2,c2,_,ae (j1 HK.o),by go_num,rfl,Ai,wV,X5⟩
   ·have vZ:k=n:=by have:=HK.o;omega
    subst vZ;go_wp2_with fail
    go_ret2
    exact⟨⟨_,eA (by rw[HS.o,HR.o];rfl),by rw[HS.o,HR.o];exact vw.o.mono (Nat.le_succ _)⟩,HX.o.trans vh.o⟩
 ·have HN:=ae (show xP A (k1,k2) B=none by unfold xP;rw[HL.o,Ll.o,if_neg hne]);go_enter Tryz.func241,Tryz.ntmps241
  go_wp2_with fail;have HO:=ae (l9.made (w.alloc (.cells #[.int .i64 k1,.int .i64 k2] 62)) w.heap.size e8)
  go_ret2
  exact⟨⟨_,eA (by rw[HN.o];rfl),by rw[HN.o];simpa using HO.o⟩,HX.o.trans (Ext.alloc _ _)⟩
theorem kT{cap:Nat}{l:j4}(h:Rats w a n cap l)(hb:n<=1099511627776):
 Calls Tryz.prog 109 #[.slice a n cap] w fun e w'=>(∃v,e=.returned v/\l9 w' w.heap.size v l)/\Ext w w':=by
 have HI:=ae (h.ext (Ext.alloc w (.cells #[] 62)));have HO:=ae (l9.made w w.heap.size (Nat.le_refl _));clear h;go_enter Tryz.func109,Tryz.ntmps109
 go_wp2_with (first|(at_builtin;refine aI rfl _ _ rfl w.heap.size _ _ rfl HO.o _ n _ l rfl HI.o (by simpa using hb) e8 ?_;intro v' w1 ho hg l7));go_ret;exact⟨⟨_,rfl,by simpa using ho⟩,ak (Ext.alloc _ _) hg (fun k hk=>Nat.le_of_eq (Option.some.inj (show some w.heap.size=some k from hk)))⟩
theorem te{k1 k2:Int}{cap:Nat}{A:j4}(h:Rats w a n cap A)(hbig:n<=1048576):
 Calls Tryz.prog 261 #[.slice a n cap,wk k1 k2] w fun e w'=>(∃v,e=.returned (.tuple #[v,.bool (Ad A (k1,k2)).isSome])/\l9 w' w.heap.size v ((Ad A (k1,k2)).getD []))/\Ext w w':=by
 have HL:=ae h.hlen;have o0:=h.o0;have l8:=h.l8;have HA:=ae h;have HX:=ae (Ext.alloc w (.cells #[.int .i64 k1,.int .i64 k2] 62));have HS:=ae (show Ad A (k1,k2)=runT (CF A (k1,k2)) n by unfold Ad;rw[h.hlen]);have HO:=ae (l9.made (w.alloc (.cells #[.int .i64 k1,.int .i64 k2] 62)) (w.heap.size+1) e8);clear h;go_enter Tryz.func261,Tryz.ntmps261
 go_wp2_with fail
 go_loopg [6,7] n (fun gk o i wr=>∃(k:Nat) (a1:j6) (J p1:Nat) (r:j4),b7 (gk+k=n)/\i=.int .i64 (k:Int)/\o=.slice a1 J p1/\b7 (runT (CF A (k1,k2)) k=some r)/\b7 (l9 wr (w.heap.size+1) (.slice a1 J p1) r)/\b7 (Ext (w.alloc (.cells #[.int .i64 k1,.int .i64 k2] 62)) wr))
 case atStart=>exact⟨0,_,_,_,[],ae e7,rfl,rfl,ae rfl,ae (by simpa using HO.o),ae (Ext.alloc _ _)⟩
 case round =>
  obtain⟨k,a1,J,p1,r,U,rfl,rfl,HR,vw,vh⟩:=hrel;have Cq:=vh.o.size;rw[World.size_alloc]at Cq;by_cases hlt:k<n
  ·have E7:wr.cell? ⟨w.heap.size,0,none⟩=some (.int .i64 k1):=vh.o.j9 e8;have E6:wr.cell? ⟨w.heap.size,1,none⟩=some (.int .i64 k2):=vh.o.j9 e8;obtain⟨Q,G,O,K,ha,GD,W,Z⟩:=((HA.o.ext HX.o).ext vh.o).at hlt;subst ha;have Vi:=ae GD;obtain⟨p,q,one,hm⟩:∃p q ok,xk (O,K) (k1,k2)=((p,q),ok):=⟨_,_,_,rfl⟩;have HM:=ae hm;clear GD hm;go_upto_region 5 with fail
   go_cut [8,9] (fun sx so wx=>∃g:Nat,sx=.pointer (some ⟨g,0,none⟩)/\so=.bool one/\b7 (ag wr wx g p q))
   case first =>
    have k7:Ext wr wr.drew:=Ext.drew wr;have vt:Ext wr (wr.alloc (.cells #[.int .i64 0,.int .i64 0] 62)).drew:=(Ext.alloc _ _).trans (Ext.drew _);have k8:=ae (fun(w':World) (h:Ext wr w')=>(⟨h.j9 E7,h.j9 E6,h.j9 W,h.j9 Z,h⟩:w'.cell? ⟨w.heap.size,0,none⟩=some (.int .i64 k1)/\w'.cell? ⟨w.heap.size,1,none⟩=some (.int .i64 k2)/\w'.cell? ⟨Q,G+k*2,none⟩=some (.int .i64 O)/\w'.cell? ⟨Q,G+k*2+1,none⟩=some (.int .i64 K)/\Ext wr w'))
    go_region_held3 (fun w'=>w'.cell? ⟨w.heap.size,0,none⟩=some (.int .i64 k1)/\w'.cell? ⟨w.heap.size,1,none⟩=some (.int .i64 k2)/\w'.cell? ⟨Q,G+k*2,none⟩=some (.int .i64 O)/\w'.cell? ⟨Q,G+k*2+1,none⟩=some (.int .i64 K)/\Ext wr w')
     (first
       | with_reducible exact k8.o _ k7
       | with_reducible exact k8.o _ vt
       | with_reducible exact k8.o _ ((k7.setCell (by first|(simp;done)|(simp;omega)) _).setCell (by first|(simp;done)|(simp;omega)) _)
       | with_reducible exact k8.o _ (k7.trans (Ext.alloc _ _))
       | with_reducible exact k8.o _ (p4.put _ _).ext)
     (first
       | (go_at_call 242
          (with_reducible refine(pK O K k1 k2 _).mono ?_)
          rw[HM.o];rintro e w3 ⟨rfl,E⟩
          first|(with_reducible have p4:=ag.grow p4 E)|(with_reducible have p4:=ag.vm E)|(with_reducible have p4:=ag.vq k7 E)|skip
          first|(have Ag:=p4.c0;have Af:=p4.c1;have Bb:=p4.free)|skip
          have k7:Ext wr w3:=by first|with_reducible exact k7.trans E|with_reducible exact vt.trans E|with_reducible exact(k7.trans (Ext.alloc _ _)).trans E
          have xu:=k7.size)
       | fail)
    all_goals(go_wp2_with fail;go_meet;first|exact⟨_,rfl,rfl,ae (p4.put _ _)⟩|exact⟨_,rfl,rfl,ae (ag.new k7 _ _)⟩|exact⟨_,rfl,rfl,ae (ag.new' k7 _ _ e8)⟩)
   obtain⟨g,rfl,rfl,I⟩:=hcut;have g0:=I.o.c0;have g1:=I.o.c1;have X2:=ae (vh.o.trans I.o.ext);have wG:=ae (vw.o.ext I.o.ext);have HF:=ae (show CF A (k1,k2) k=if one=true then some (p,q) else none by unfold CF;rw[Vi.o,HM.o]);have Di:=X2.o.size;rw[World.size_alloc]at Di;clear E7 E6 W Z;cases one
   ·have HN:=ae (show runT (CF A (k1,k2)) n=none from fQ HR.o (by rw[HF.o];rfl) hlt);go_wp2_with fail
    go_ret2
    exact⟨⟨_,eA (by rw[HS.o,HN.o];rfl),by rw[HS.o,HN.o];exact l9.made _ _ e7⟩,HX.o.trans (X2.o.trans (Ext.alloc _ _))⟩
   ·have Ai:=ae (ec (x:=(p,q)) HR.o (by rw[HF.o];rfl));have xE:=ae (dp HR.o)
    go_wp2_with (first
     | (at_builtin;refine aI rfl _ _ rfl (w.heap.size+1) (.slice a1 J p1) _ rfl (wG.o.ext (Ext.alloc _ _)) _ 1 _ [(p,q)] rfl (Rats.one' _ _ _ _ _ e8) (by rw[xE.o];omega) (by simp;omega) ?_;intro v2 w4 ho hg l7;obtain⟨a2,n2,c2,rfl,ED⟩:=ho.var;have wV:=ae ho;have X5:=ae (ak (X2.o.trans (Ext.alloc _ _)) hg (fun j hj=>by have:=(wG.o.lt j hj).1;simpa using this));clear ho hg l7))
    go_roundg (gk-1)
    case measure=>have:=U.o;omega
    case rel=>exact⟨k+1,a2,n2,c2,_,ae (j1 U.o),by go_num,rfl,Ai,wV,X5⟩
  ·have vZ:k=n:=by have:=U.o;omega
   subst vZ;go_wp2_with fail
   go_ret2
   exact⟨⟨_,eA (by rw[HS.o,HR.o];rfl),by rw[HS.o,HR.o];exact vw.o.mono (Nat.le_succ _)⟩,HX.o.trans vh.o⟩
section
variable{w:World}{ra:j6}{rn rc:Nat}{ba:j6}{bn bc:Nat}{t:Tb}{n m:Nat}{T0:Nat->Nat->Rat}
structure TbN(w:World)(ra:j6)(rn rc:Nat)(ba:j6)(bn bc:Nat)(t:Tb)(n m:Nat):Prop where
 tb:Ds w ra m rc ba m bc t
 rn:rn=m
 bn:bn=m
 q8:t.q8=n
theorem wo.sizes(h:wo n m T0 t)(hc:Ds w ra rn rc ba bn bc t):rn=m/\bn=m:=⟨by rw[<-hc.rows.hlen];exact h.len,by rw[<-hc.basis.hlen];exact h.zM⟩
theorem iZ(h:Ds w ra m rc ba m bc t)(hT:wo n m T0 t)(hn:n<=1000)(hm:m<=1000):
 Calls Tryz.prog 220 #[CR ra m rc ba m bc (n:Int)] w fun e w'=>e=.returned (.bool true)/\Ext w w':=by
 have uS:=Ext.alloc w (bT ra m rc ba m bc (n:Int));have uV:=ae uS;have H:=ae (h.ext uS);have uW:=ae (show(w.alloc (bT ra m rc ba m bc (n:Int))).heap[w.heap.size]?=some (.cells #[.slice ra m rc,.slice ba m bc,.int .i64 (n:Int)] 116 (0,0))from aj _ _ _ rfl);have h1:=h.rows.l8;have h2:=h.rows.o0;have h3:=h.basis.l8;have h4:=h.basis.o0;have HT:=ae hT;clear h hT uS;have F1:¬(n:Int)<0:=by omega
 have zv:¬(n:Int) > 1000:=by omega
 have M4:((m:Int) != (m:Int))=false:=by simp
 go_enter Tryz.func220,Tryz.ntmps220
 go_wp2_with fail
 go_loopg [4] m (fun gk ii wr=>∃k:Nat,b7 (gk+k=m)/\ii=.int .i64 (k:Int)/\b7 (Ext (w.alloc (bT ra m rc ba m bc (n:Int))) wr))
 case atStart=>exact⟨0,ae e7,rfl,ae (Ext.refl _)⟩
 case round =>
  obtain⟨g1,o6⟩:=b9 gk;subst o6;obtain⟨E,o4⟩:=b9 wr;subst o4;obtain⟨k,Z,rfl,HX⟩:=hrel;have p0:=al (HX.o.blk uW.o);have p1:=au (HX.o.blk uW.o);have p2:=av (HX.o.blk uW.o);by_cases hlt:k<m
  ·obtain⟨I,Q,ya,J,yc,zX,xr,o7⟩:=(H.o.ext HX.o).rows.at hlt;subst zX;have A5:J=n+m+1:=by rw[<-o7.hlen];exact(HT.o.row k hlt).1
   have xG:=o7.l8;have Bt:=o7.o0;obtain⟨U,O,AD,W⟩:=(H.o.ext HX.o).basis.at hlt;subst AD;obtain⟨G,DO⟩:=b9 (t.basis[k]?.getD 0);rw[<-DO]at W;have CY:0<=G/\G<n+m:=by
    rw[DO,List.getElem?_eq_getElem (by rw[HT.o.zM];exact hlt)];exact HT.o.NF _ (List.getElem_mem _)
   have GU:=ae (fun w'=>bm G 0 ((n:Int)+(m:Int)-1) w');rw[show r' G 0 ((n:Int)+(m:Int)-1)=true by unfold r';simp;omega]at GU;have DG:IntKind.i64.wrap ((n:Int)+(m:Int))=(n:Int)+(m:Int):=by rw[IntKind.wrap_i64];omega
   have AM:IntKind.i64.wrap ((n:Int)+(m:Int)+1)=(n:Int)+(m:Int)+1:=by rw[IntKind.wrap_i64];omega
   have DF:IntKind.i64.wrap ((n:Int)+(m:Int)-1)=(n:Int)+(m:Int)-1:=by rw[IntKind.wrap_i64];omega
   have Fu:((J:Int) != (n:Int)+(m:Int)+1)=false:=by simp;omega
   have BU:(0:Int)<=(k:Int):=by omega
   have yx:(k:Int)<(m:Int):=by omega
   clear o7 A5 DO CY;go_upto_region 7 with fail;have k7:Ext E E.drew:=Ext.drew E;have k8:=ae (fun(w':World) (h:Ext E w')=>(⟨h.j9 p0,h.j9 p1,h.j9 p2,h.j9 xr,h.j9 W,h⟩:w'.cell? ⟨w.heap.size,0,none⟩=some (.slice (some ⟨I,Q,none⟩) m rc)/\w'.cell? ⟨w.heap.size,1,none⟩=some (.slice (some ⟨U,O,none⟩) m bc)/\w'.cell? ⟨w.heap.size,2,none⟩=some (.int .i64 (n:Int))/\w'.cell? ⟨I,Q+k,none⟩=some (.slice ya J yc)/\w'.cell? ⟨U,O+k,none⟩=some (.int .i64 G)/\Ext E w'));refine wp_region_held_drew (S:=(fun w'=>w'.cell? ⟨w.heap.size,0,none⟩=some (.slice (some ⟨I,Q,none⟩) m rc)/\w'.cell? ⟨w.heap.size,1,none⟩=some (.slice (some ⟨U,O,none⟩) m bc)/\w'.cell? ⟨w.heap.size,2,none⟩=some (.int .i64 (n:Int))/\w'.cell? ⟨I,Q+k,none⟩=some (.slice ya J yc)/\w'.cell? ⟨U,O+k,none⟩=some (.int .i64 G)/\Ext E w')) e9 ?_ (fun k9=>?_)
   ·exact k8.o _ k7
   refine tk 0 ?_;refine tk 1 ?_;refine tk 2 ?_;refine tk 3 ?_;refine tk 4 ?_;refine tk 5 ?_;refine tk 6 ?_;refine tk 7 ?_;refine tk 8 ?_;refine tk 9 ?_;refine tk 10 ?_;refine tk 11 ?_;refine tk 12 ?_;refine tk 13 ?_;refine tk 14 ?_;refine tk 15 ?_;refine tk 16 ?_;refine tk 17 ?_;refine tk 18 ?_;refine tk 19 ?_;refine tk 20 ?_;refine tk 21 ?_;refine tk 22 ?_;refine rd (i:=23) (h:=fun K hK=>?_);go_simp
   (go_at_call 45;refine(GU.o _).mono ?_;rintro e w3 ⟨rfl,rfl⟩)
   go_wp2_with fail;refine hK.out _ _ ?_ (fun k9=>?_)
   ·exact k8.o _ k7
   clear hK K
   try simp only[Act.put,sA,sB,sC]
   refine tk 24 ?_;refine tk 25 ?_;refine wpAnyH_done e9 ?_ _;have wF:=ae (HX.o.trans k7);clear DG AM DF Fu p0 p1 p2 xr W;go_wp2_with fail
   go_roundg (g1-1)
   case measure=>have:=Z.o;omega
   case rel=>exact⟨k+1,ae (j1 Z.o),by go_num,wF⟩
  ·have yV:m=k:=by have:=Z.o;omega
   subst yV;go_wp2_with fail;go_ret;exact⟨rfl,uV.o.trans HX.o⟩
end
theorem kS(x y:Int)(w:World):Calls Tryz.prog 167 #[wk x y] w fun e w'=>e=.returned (.int .i64 (vP (x,y) (0,1)))/\Ext w w':=by
 obtain⟨W,hW⟩:=b9 (w.alloc (.cells #[.int .i64 x,.int .i64 y] 62));have HX:=ae (show Ext w W by rw[hW];exact Ext.alloc _ _);have c0:W.cell? ⟨w.heap.size,0,none⟩=some (.int .i64 x):=by rw[hW];simp
 have c1:W.cell? ⟨w.heap.size,1,none⟩=some (.int .i64 y):=by rw[hW];simp
 go_enter Tryz.func167,Tryz.ntmps167
 go_upto_region 1 with fail;rw[<-hW];clear hW;have k7:Ext W W.drew:=Ext.drew W;have E:=k7;have k8:=ae (fun(w':World) (h:Ext W w')=>(⟨h.j9 c0,h.j9 c1,h⟩:w'.cell? ⟨w.heap.size,0,none⟩=some (.int .i64 x)/\w'.cell? ⟨w.heap.size,1,none⟩=some (.int .i64 y)/\Ext W w'))
 go_region_held3 (fun w'=>w'.cell? ⟨w.heap.size,0,none⟩=some (.int .i64 x)/\w'.cell? ⟨w.heap.size,1,none⟩=some (.int .i64 y)/\Ext W w')
  (with_reducible exact k8.o _ k7)
  (first
    | (go_at_call 49
       (with_reducible refine(cl 0 _).mono ?_)
       rintro e w3 ⟨rfl,I⟩;have k7:Ext W w3:=k7.trans I
       have Cr:=k7.size)
    | (go_at_call 219
       (with_reducible refine(gZ x y 0 1 _).mono ?_)
       rintro e w4 ⟨rfl,G⟩;have k7:Ext W w4:=k7.trans G
       have DI:=k7.size)
    | fail)
 clear k8 E;go_wp2_with fail;go_ret;exact⟨rfl,HX.o.trans k7⟩
theorem kP{ra:j6}{rn rc:Nat}{ba:j6}{bn bc:Nat}{x:Int}{cap:Nat}{costs:j4}(h:Rats w a n cap costs)(m:Nat)(hm:m<=n):
 Calls Tryz.prog 216 #[CR ra rn rc ba bn bc x,.slice a n cap,.int .i64 (m:Int)] w fun e w'=>e=.returned (.int .i64 (aZ costs m))/\Ext w w':=by
 have uS:=Ext.alloc w (bT ra rn rc ba bn bc x);have uV:=ae uS;have H:=ae (h.ext uS);have xB:=h.l8;have zC:=h.o0;have HL:=ae h.hlen;clear h uS;have hle:(m:Int)<=(n:Int):=by omega
 go_enter Tryz.func216,Tryz.ntmps216
 go_wp2_with fail
 go_loopg [7] m (fun gk ii wr=>∃k:Nat,b7 (gk+k=m)/\ii=.int .i64 (k:Int)/\b7 ((costs.take k).all (fun c=>!eG c)=true)/\b7 (Ext (w.alloc (bT ra rn rc ba bn bc x)) wr))
 case atStart=>exact⟨0,ae e7,rfl,ae rfl,ae (Ext.refl _)⟩
 case round =>
  obtain⟨g1,W⟩:=b9 gk;subst W;obtain⟨U,Z⟩:=b9 wr;subst Z;obtain⟨k,E,rfl,HA,HX⟩:=hrel;by_cases hlt:k<m
  ·have I:k<n:=by omega
   obtain⟨zb,vF,p,q,O,J,xr,Cm⟩:=(H.o.ext HX.o).at I;subst O;have wI:=ae J;have HS:=ae (kS p q U);obtain⟨K,G⟩:=b9 (vP (p,q) (0,1));have A1:=ae (show eG (p,q)=decide (K<0)by rw[G];rfl);rw[<-G]at HS;clear J G;by_cases AO:K<0
   ·have HR:=ae (show aZ costs m=k from nd (by rw[HL.o];omega) hlt HA.o (by rw[wI.o,A1.o,decide_eq_true AO]));go_wp2_with fail;refine HS.o.mono ?_;rintro e w3 ⟨rfl,hx⟩;have X3:=ae (HX.o.trans hx);clear hx;go_wp2_with fail;go_ret;exact⟨aD HR.o.symm,uV.o.trans X3.o⟩
   ·have HT:=ae (jY (by rw[HL.o];exact I) wI.o HA.o (by rw[A1.o,decide_eq_false AO]));go_wp2_with fail;refine HS.o.mono ?_;rintro e w3 ⟨rfl,hx⟩;have X3:=ae (HX.o.trans hx);clear hx;go_wp2_with fail
    go_roundg (g1-1)
    case measure=>have:=E.o;omega
    case rel=>exact⟨k+1,ae (j1 E.o),by go_num,HT,X3⟩
  ·have Q:m=k:=by have:=E.o;omega
   subst Q;have HR:=ae (show aZ costs m=-1 from jZ (by rw[HL.o];omega) HA.o);go_wp2_with fail;go_ret;exact⟨aD HR.o.symm,uV.o.trans HX.o⟩
section
variable{w:World}{ra:j6}{rc:Nat}{ba:j6}{bc:Nat}{t:Tb}{n m:Nat}{T0:Nat->Nat->Rat}
theorem pP(h:Ds w ra m rc ba m bc t)(K:wo n m T0 t)(hn:n<=1000)(hm:m<=1000){c:Nat}(hc:c<n):
 Calls Tryz.prog 217 #[CR ra m rc ba m bc (n:Int),.int .i64 (c:Int)] w fun e w'=>e=.returned (.int .i64 (cu t (c:Int)))/\Ext w w':=by
 have uS:=Ext.alloc w (bT ra m rc ba m bc (n:Int));have uV:=ae uS;have H:=ae (h.ext uS);have uW:=ae (show(w.alloc (bT ra m rc ba m bc (n:Int))).heap[w.heap.size]?=some (.cells #[.slice ra m rc,.slice ba m bc,.int .i64 (n:Int)] 116 (0,0))from aj _ _ _ rfl);have xm:=h.rows.l8;have yI:=h.rows.o0;have xL:=h.basis.l8;have wU:=h.basis.o0;have HT:=ae K
 have HR:=ae (show cu t (c:Int)=(bO t c m).1 by
  unfold cu
  rw[if_pos (by rw[K.ok hn,K.q8,K.len];simp[r'];omega),K.len,Int.toNat_natCast])
 have HG:=ae (iZ H.o K hn hm);obtain⟨u,hu⟩:=b9 (n+m);have HU:=ae (show u=t.q8.toNat+t.rows.length by rw[K.q8,K.len,Int.toNat_natCast];exact hu);have R6:=ae hu;have GU:=ae (fun w'=>bm (c:Int) 0 ((n:Int)+(m:Int)-1) w');rw[show r' (c:Int) 0 ((n:Int)+(m:Int)-1)=true by unfold r';simp;omega]at GU;have DG:IntKind.i64.wrap ((n:Int)+(m:Int))=(n:Int)+(m:Int):=by rw[IntKind.wrap_i64];omega
 have DF:IntKind.i64.wrap ((n:Int)+(m:Int)-1)=(n:Int)+(m:Int)-1:=by rw[IntKind.wrap_i64];omega
 clear h K uS hu;go_enter Tryz.func217,Tryz.ntmps217
 go_upto_region 1 with fail;obtain⟨W,hW⟩:=b9 (w.alloc (bT ra m rc ba m bc (n:Int)));rw[<-hW]at uV H uW HG;rw[<-hW];clear hW;have p0:=al uW.o;have p1:=au uW.o;have p2:=av uW.o;go_wp2_with fail;refine HG.o.mono ?_;rintro e w1 ⟨rfl,hx⟩;have X1:=ae hx;clear hx p0 p1 p2;have p0:=al (X1.o.blk uW.o);have p2:=av (X1.o.blk uW.o);have BM:=ae (ag.new (Ext.refl w1) 0 0);go_wp2_with (first|(go_at_call 45;refine(GU.o _).mono ?_;rintro e w2 ⟨rfl,rfl⟩));clear DF
 go_loopg [5,7] m (fun gk Y8 ii wr=>∃(k:Nat) (st l1 l2:Int),b7 (gk+k=m)/\ii=.int .i64 (k:Int)/\Y8=.int .i64 st/\b7 (bO t c k=(st,(l1,l2)))/\b7 (ag w1 wr w1.heap.size l1 l2))
 case atStart=>exact⟨0,-1,0,0,ae e7,rfl,rfl,ae rfl,BM⟩
 case round =>
  obtain⟨g1,o6⟩:=b9 gk;subst o6;obtain⟨o8,o4⟩:=b9 wr;subst o4;obtain⟨k,st,l1,l2,Q,rfl,rfl,HL,HB⟩:=hrel;have XR:=ae (X1.o.trans HB.o.ext);clear p0 p2;have p0:=al (XR.o.blk uW.o);by_cases hlt:k<m
  ·obtain⟨zb,vF,za,zn,zc,zX,xr,o7⟩:=(H.o.ext XR.o).rows.at hlt;subst zX;have G4:zn=u+1:=by rw[<-o7.hlen,R6.o];exact(HT.o.row k hlt).1
   have VR:=ae G4;have J1:=o7.l8;have S4:=o7.o0;have ze:=ae o7;have hcz:c<zn:=by have:=R6.o;omega
   obtain⟨yb,vB,p,q,Bs,vK,AL,xG⟩:=o7.at hcz;subst Bs;have wI:=ae (show t.at k c=(p,q)from vK);have hczI:(c:Int)<(zn:Int):=by omega
   clear vK o7 G4;obtain⟨E,hE⟩:=b9 (o8.alloc (.cells #[.int .i64 p,.int .i64 q] 62));obtain⟨gp,Nb⟩:=b9 o8.heap.size;have yD:Ext o8 E:=by rw[hE];exact Ext.alloc _ _
   have Em:=ae (show ag o8 E gp p q by rw[hE,Nb];exact ag.new (Ext.refl _) _ _);have EI:=ae (HB.o.grow yD);go_upto_region 9 with fail;rw[<-hE,<-Nb];clear hE Nb yD p0 xr AL xG;have XE:=ae (X1.o.trans EI.o.ext);have p0:=al (XE.o.blk uW.o);have p2:=av (XE.o.blk uW.o);obtain⟨Wh,IF,za',Rt,Wg,Cl,xr,EY⟩:=(H.o.ext XE.o).rows.at hlt;simp only[Option.some.injEq,Addr.mk.injEq,and_true]at Cl;obtain⟨rfl,rfl⟩:=Cl;have Sv:Rt=u+1:=by rw[<-EY.hlen,R6.o];exact(HT.o.row k hlt).1
   have HZN':=ae Sv;obtain⟨ub,FK,p',q',Vr,J3,G5,JP⟩:=EY.at (show u<Rt by omega);subst Vr;have hrc':=EY.l8;have hrm':=EY.o0;have UC:=ae (show t.at k u=(p',q')from J3);have e0:=Em.o.c0;have e1:=Em.o.c1;obtain⟨d1,d2,BY,hdd⟩:∃x y ok,xk (p',q') (p,q)=((x,y),ok):=⟨_,_,_,rfl⟩;have Bk:=ae hdd;have LD:IntKind.i64.wrap ((n:Int)+(m:Int))=(u:Int):=by have:=R6.o;rw[IntKind.wrap_i64];omega
   have JS:(0:Int)<=(u:Int):=by omega
   have DH:(u:Int)<(Rt:Int):=by omega
   have BU:(0:Int)<=(k:Int):=by omega
   have yx:(k:Int)<(m:Int):=by omega
   clear J3 hdd EY Sv DG;go_upto_region 9 with fail
   go_cut [9,10] (fun sx so wx=>∃g:Nat,sx=.pointer (some ⟨g,0,none⟩)/\so=.bool BY/\b7 (ag E wx g d1 d2))
   case first =>
    have k7:Ext E E.drew:=Ext.drew E;have vt:Ext E (E.alloc (.cells #[.int .i64 0,.int .i64 0] 62)).drew:=(Ext.alloc _ _).trans (Ext.drew _);have k8:=ae (fun(w':World) (h:Ext E w')=>(⟨h.j9 p0,h.j9 p2,h.j9 xr,h.j9 G5,h.j9 JP,h.j9 e0,h.j9 e1,h⟩:w'.cell? ⟨w.heap.size,0,none⟩=some (.slice (some ⟨zb,vF,none⟩) m rc)/\w'.cell? ⟨w.heap.size,2,none⟩=some (.int .i64 (n:Int))/\w'.cell? ⟨zb,vF+k,none⟩=some (.slice (some ⟨ub,FK,none⟩) Rt Wg)/\w'.cell? ⟨ub,FK+u*2,none⟩=some (.int .i64 p')/\w'.cell? ⟨ub,FK+u*2+1,none⟩=some (.int .i64 q')/\w'.cell? ⟨gp,0,none⟩=some (.int .i64 p)/\w'.cell? ⟨gp,1,none⟩=some (.int .i64 q)/\Ext E w'))
    go_region_held3 (fun w'=>w'.cell? ⟨w.heap.size,0,none⟩=some (.slice (some ⟨zb,vF,none⟩) m rc)/\w'.cell? ⟨w.heap.size,2,none⟩=some (.int .i64 (n:Int))/\w'.cell? ⟨zb,vF+k,none⟩=some (.slice (some ⟨ub,FK,none⟩) Rt Wg)/\w'.cell? ⟨ub,FK+u*2,none⟩=some (.int .i64 p')/\w'.cell? ⟨ub,FK+u*2+1,none⟩=some (.int .i64 q')/\w'.cell? ⟨gp,0,none⟩=some (.int .i64 p)/\w'.cell? ⟨gp,1,none⟩=some (.int .i64 q)/\Ext E w')
     (first
       | with_reducible exact k8.o _ k7
       | with_reducible exact k8.o _ vt
       | with_reducible exact k8.o _ ((k7.setCell (by first|(simp;done)|(simp;omega)) _).setCell (by first|(simp;done)|(simp;omega)) _)
       | with_reducible exact k8.o _ (k7.trans (Ext.alloc _ _))
       | with_reducible exact k8.o _ (p4.put _ _).ext)
     (first
       | (go_at_call 242
          (with_reducible refine(pK p' q' p q _).mono ?_)
          rw[Bk.o];rintro e w5 ⟨rfl,uY⟩
          first|(with_reducible have p4:=ag.grow p4 uY)|(with_reducible have p4:=ag.vm uY)|(with_reducible have p4:=ag.vq k7 uY)|skip
          first|(have Ag:=p4.c0;have Af:=p4.c1;have Bb:=p4.free)|skip
          have k7:Ext E w5:=by first|with_reducible exact k7.trans uY|with_reducible exact vt.trans uY|with_reducible exact(k7.trans (Ext.alloc _ _)).trans uY
          have xu:=k7.size)
       | fail)
    all_goals(go_wp2_with fail;go_meet;first|exact⟨_,rfl,rfl,ae (p4.put _ _)⟩|exact⟨_,rfl,rfl,ae (ag.new k7 _ _)⟩|exact⟨_,rfl,rfl,ae (ag.new' k7 _ _ e8)⟩)
   obtain⟨g,rfl,rfl,wy⟩:=hcut;clear LD JS DH p0 p2 xr G5 JP e0 e1;have Ly:=ae (EI.o.grow wy.o.ext);have Vf:=ae (Em.o.grow wy.o.ext);have e0:=Vf.o.c0;have e1:=Vf.o.c1;have HS:=ae (kS p q wc);obtain⟨sg,AB⟩:=b9 (vP (p,q) (0,1));have A1:=ae AB;rw[<-AB]at HS;clear AB;by_cases AO:sg<=0
   ·have xh:=ae (show bO t c (k+1)=(st,(l1,l2))by
     show dB _ c (bO _ c k) k=_
     rw[HL.o];exact pm wI.o (by rw[<-A1.o];exact AO))
    go_wp2_with fail;refine HS.o.mono ?_;rintro e w3 ⟨rfl,hx⟩;have Z:=ae (Ly.o.grow hx);clear hx;go_wp2_with fail
    go_roundg (g1-1)
    case measure=>have:=Q.o;omega
    case rel=>exact⟨k+1,st,l1,l2,ae (j1 Q.o),by go_num,rfl,xh,Z⟩
   ·have FA:=ae AO;cases BY
    ·have xh:=ae (show bO t c (k+1)=(st,(l1,l2))by
      show dB _ c (bO _ c k) k=_
      rw[HL.o];exact po HU.o wI.o UC.o (by rw[<-A1.o];have:=FA.o;omega) (by rw[Bk.o]))
     go_wp2_with fail;refine HS.o.mono ?_;rintro e w3 ⟨rfl,hx⟩;have Z:=ae (Ly.o.grow hx);clear hx;go_wp2_with fail
     go_roundg (g1-1)
     case measure=>have:=Q.o;omega
     case rel=>exact⟨k+1,st,l1,l2,ae (j1 Q.o),by go_num,rfl,xh,Z⟩
    ·go_wp2_with fail;refine HS.o.mono ?_;rintro e w3 ⟨rfl,hx⟩;have Z:=ae (Ly.o.grow hx);have HD3:=ae (wy.o.grow hx);have g0:=HD3.o.c0;have g1':=HD3.o.c1;have b0:=Z.o.c0;have b1:=Z.o.c1;have B6:=ae (gZ d1 d2 l1 l2 w3);obtain⟨cc,I⟩:=b9 (vP (d1,d2) (l1,l2));have Ma:=ae I;rw[<-I]at B6;clear I hx e0 e1;go_wp2_with fail;refine B6.o.mono ?_;rintro e w6 ⟨rfl,hx⟩;have DT:=ae (Z.o.grow hx);have O':=ae (HD3.o.grow hx);clear hx g0 g1' b0 b1;have X6:=ae (X1.o.trans DT.o.ext);have c1:=au (X6.o.blk uW.o);obtain⟨O,J,AD,xj⟩:=(H.o.ext X6.o).basis.at hlt;subst AD;obtain⟨bi,Bx⟩:=b9 (t.basis[k]?.getD 0);have Lw:=ae Bx;rw[<-Bx]at xj;clear Bx;have Ce:=ae (im t c k)
     have Zp:=ae (fun G (xS:t.basis[st.toNat]?.getD 0=G)=>show bO t c (k+1)=if Aw st cc bi G=true then((k:Int),(d1,d2)) else(st,(l1,l2))by
      show dB _ c (bO _ c k) k=_;rw[HL.o,Ma.o]
      exact pr HU.o wI.o UC.o (by rw[<-A1.o];have:=FA.o;omega) Bk.o Lw.o.symm xS)
     go_upto_region 12 with fail
     go_cut [93] (fun s82 wx=>∃G:Int,s82=.bool (Aw st cc bi G)/\b7 (t.basis[st.toNat]?.getD 0=G)/\b7 (Ext w6 wx))
     case first =>
      have k7:Ext w6 w6.drew:=Ext.drew w6;by_cases hst:st<0
      ·have Ca:decide (st<0)=true:=decide_eq_true hst;refine wp_region_held_drew (S:=(fun w'=>w'.cell? ⟨w.heap.size,1,none⟩=some (.slice (some ⟨O,J,none⟩) m bc)/\w'.cell? ⟨O,J+k,none⟩=some (.int .i64 bi)/\Ext w6 w')) e9 ?_ (fun k9=>?_)
       ·exact⟨k7.j9 c1,k7.j9 xj,k7⟩
       refine tk 0 ?_;refine tk 1 ?_;refine tk 2 ?_;refine sk 3 ?_;refine sk 4 ?_;refine tk 5 ?_;refine tk 6 ?_;refine sk 7 ?_;refine sk 8 ?_;refine sk 9 ?_;refine sk 10 ?_;refine sk 11 ?_;refine sk 12 ?_;refine sk 13 ?_;refine sk 14 ?_;refine sk 15 ?_;refine sk 16 ?_;refine sk 17 ?_;refine sk 18 ?_;refine sk 19 ?_;refine sk 20 ?_;refine sk 21 ?_;refine tk 22 ?_;refine wpAnyH_done e9 ?_ _;go_wp2_with fail;go_meet;exact⟨_,by unfold Aw;rw[Ca];rfl,ae rfl,ae k7⟩
      ·have Ca:decide (st<0)=false:=decide_eq_false e7;obtain⟨U,rfl⟩:∃U:Nat,st=U:=⟨st.toNat,by omega⟩;have MW:U<m:=by have:=Ce.o;rw[HL.o]at this;simp only at this;omega
       obtain⟨fb,CE,Qc,Ki⟩:=(H.o.ext X6.o).basis.at MW;simp only[Option.some.injEq,Addr.mk.injEq,and_true]at Qc;obtain⟨rfl,rfl⟩:=Qc;obtain⟨G,xS⟩:=b9 (t.basis[U]?.getD 0);have AF:=ae (show t.basis[Int.toNat (U:Int)]?.getD 0=G by rw[Int.toNat_natCast,xS]);rw[<-xS]at Ki;have Xd:(0:Int)<=(U:Int):=by omega
       have S1:(U:Int)<(m:Int):=by omega
       clear xS;by_cases I:cc<0
       ·have D1:decide (cc<0)=true:=decide_eq_true I;refine wp_region_held_drew (S:=(fun w'=>w'.cell? ⟨w.heap.size,1,none⟩=some (.slice (some ⟨O,J,none⟩) m bc)/\w'.cell? ⟨O,J+k,none⟩=some (.int .i64 bi)/\Ext w6 w')) e9 ?_ (fun k9=>?_)
        ·exact⟨k7.j9 c1,k7.j9 xj,k7⟩
        refine tk 0 ?_;refine tk 1 ?_;refine tk 2 ?_;refine tk 3 ?_;refine tk 4 ?_;refine tk 5 ?_;refine tk 6 ?_;refine sk 7 ?_;refine sk 8 ?_;refine sk 9 ?_;refine sk 10 ?_;refine sk 11 ?_;refine sk 12 ?_;refine sk 13 ?_;refine sk 14 ?_;refine sk 15 ?_;refine sk 16 ?_;refine sk 17 ?_;refine sk 18 ?_;refine sk 19 ?_;refine sk 20 ?_;refine sk 21 ?_;refine tk 22 ?_;refine wpAnyH_done e9 ?_ _;go_wp2_with fail;go_meet;exact⟨G,by unfold Aw;rw[Ca,D1];rfl,AF,ae k7⟩
       ·have D1:decide (cc<0)=false:=decide_eq_false e7;by_cases wK:cc=0
        ·subst wK;refine wp_region_held_drew (S:=(fun w'=>w'.cell? ⟨w.heap.size,1,none⟩=some (.slice (some ⟨O,J,none⟩) m bc)/\w'.cell? ⟨O,J+k,none⟩=some (.int .i64 bi)/\w'.cell? ⟨O,J+U,none⟩=some (.int .i64 G)/\Ext w6 w')) e9 ?_ (fun k9=>?_)
         ·exact⟨k7.j9 c1,k7.j9 xj,k7.j9 Ki,k7⟩
         refine tk 0 ?_;refine tk 1 ?_;refine tk 2 ?_;refine tk 3 ?_;refine tk 4 ?_;refine tk 5 ?_;refine tk 6 ?_;refine tk 7 ?_;refine tk 8 ?_;refine tk 9 ?_;refine tk 10 ?_;refine tk 11 ?_;refine tk 12 ?_;refine tk 13 ?_;refine tk 14 ?_;refine tk 15 ?_;refine tk 16 ?_;refine tk 17 ?_;refine tk 18 ?_;refine tk 19 ?_;refine tk 20 ?_;refine tk 21 ?_;refine tk 22 ?_;refine wpAnyH_done e9 ?_ _;go_wp2_with fail;go_meet;exact⟨G,by unfold Aw;rw[Ca];rfl,AF,ae k7⟩
        ·have Nk:(cc == 0)=false:=by simp;omega
         refine wp_region_held_drew (S:=(fun w'=>w'.cell? ⟨w.heap.size,1,none⟩=some (.slice (some ⟨O,J,none⟩) m bc)/\w'.cell? ⟨O,J+k,none⟩=some (.int .i64 bi)/\Ext w6 w')) e9 ?_ (fun k9=>?_)
         ·exact⟨k7.j9 c1,k7.j9 xj,k7⟩
         refine tk 0 ?_;refine tk 1 ?_;refine tk 2 ?_;refine tk 3 ?_;refine tk 4 ?_;refine tk 5 ?_;refine tk 6 ?_;refine tk 7 ?_;refine tk 8 ?_;refine tk 9 ?_;refine sk 10 ?_;refine sk 11 ?_;refine sk 12 ?_;refine sk 13 ?_;refine sk 14 ?_;refine sk 15 ?_;refine sk 16 ?_;refine sk 17 ?_;refine sk 18 ?_;refine sk 19 ?_;refine sk 20 ?_;refine tk 21 ?_;refine tk 22 ?_;refine wpAnyH_done e9 ?_ _;go_wp2_with fail;go_meet;exact⟨G,by unfold Aw;rw[Ca,D1,decide_eq_false wK];rfl,AF,ae k7⟩
     obtain⟨G,rfl,AF,QU⟩:=hcut;have BE:=ae (DT.o.grow QU.o);have Lm:=ae (O'.o.grow QU.o);have Up:=ae (Zp.o G AF.o);clear c1 xj;cases JR:Aw st cc bi G
     ·have xh:=ae (show bO t c (k+1)=(st,(l1,l2))by rw[Up.o,JR];rfl);go_wp2_with fail
      go_roundg (g1-1)
      case measure=>have:=Q.o;omega
      case rel=>exact⟨k+1,st,l1,l2,ae (j1 Q.o),by go_num,rfl,xh,BE⟩
     ·have xh:=ae (show bO t c (k+1)=((k:Int),(d1,d2))by rw[Up.o,JR];rfl);have g0:=Lm.o.c0;have g1':=Lm.o.c1;have b0:=BE.o.c0;have b1:=BE.o.c1;have bf:=BE.o.free;have Mc:=ae (BE.o.put d1 d2);go_wp2_with fail
      go_roundg (g1-1)
      case measure=>have:=Q.o;omega
      case rel=>exact⟨k+1,(k:Int),d1,d2,ae (j1 Q.o),by go_num,rfl,xh,Mc⟩
  ·have vZ:m=k:=by have:=Q.o;omega
   subst vZ;have HY:=ae (show cu t (c:Int)=st by rw[HR.o,HL.o]);go_wp2_with fail;go_ret;exact⟨aD HY.o.symm,uV.o.trans XR.o⟩
end
section
variable{w:World}{ra:j6}{rc:Nat}{ba:j6}{bc:Nat}{t:Tb}{n m:Nat}{T0:Nat->Nat->Rat}
theorem KO{t:Tb}{cost r:j4}{k:Nat}(h:cG t cost k=some r):cG t cost (k+1)=xP r (uU (cost[(t.basis[k]?.getD 0).toNat]?.getD (0,0))) (t.row k):=by
 simp only[cG];rw[h];rfl
theorem uB(h:Ds w ra m rc ba m bc t)(O:wo n m T0 t)(hn:n<=1000)(hm:m<=1000){ka:j6}{G kc:Nat}{cost:j4}(hk:Rats w ka G kc cost)(Ab:G=n+m)(hv:xC cost=true):
 Calls Tryz.prog 215 #[CR ra m rc ba m bc (n:Int),.slice ka G kc] w fun e w'=>(∃v,e=.returned (.tuple #[v,.bool (ch t cost).isSome])/\l9 w' w.heap.size v ((ch t cost).getD []))/\Ext w w':=by
 have uS:=Ext.alloc w (bT ra m rc ba m bc (n:Int));have uV:=ae uS;have H:=ae (h.ext uS);have uW:=ae (show(w.alloc (bT ra m rc ba m bc (n:Int))).heap[w.heap.size]?=some (.cells #[.slice ra m rc,.slice ba m bc,.int .i64 (n:Int)] 116 (0,0))from aj _ _ _ rfl);have L2:=ae (hk.ext uS);have xm:=h.rows.l8;have yI:=h.rows.o0;have xL:=h.basis.l8;have wU:=h.basis.o0;have yx:=hk.l8;have k7:=hk.o0;have HT:=ae O;have DQ:=ae hk.hlen;have U:=ae Ab
 have HE:=ae (show ch t cost=cG t cost m by
  unfold ch lu
  rw[if_pos (by rw[O.ok hn,O.q8,O.len,hk.hlen,hv,Ab];simp),O.len])
 have xJ:=ae (fun j (hj:j<G)=>show o9 (cost[j]?.getD (0,0))=true by
  have:j<cost.length:=by rw[hk.hlen];exact hj
  rw[List.getElem?_eq_getElem this];exact(List.all_eq_true.1 hv) _ (List.getElem_mem this))
 have HG:=ae (iZ H.o O hn hm);have Md:=ae hv;have G7:(G:Int)=(n:Int)+(m:Int):=by omega
 have DG:IntKind.i64.wrap ((n:Int)+(m:Int))=(G:Int):=by rw[IntKind.wrap_i64];omega
 have Dl:((G:Int) != (G:Int))=false:=by simp
 have HSUM:=ae G7;clear h O uS hk Ab hv G7;go_enter Tryz.func215,Tryz.ntmps215
 go_upto_region 1 with fail;obtain⟨W,hW⟩:=b9 (w.alloc (bT ra m rc ba m bc (n:Int)));rw[<-hW]at uV H uW HG L2;rw[<-hW];clear hW;have p0:=al uW.o;have p1:=au uW.o;have p2:=av uW.o;go_wp2_with fail;refine HG.o.mono ?_;rintro e w1 ⟨rfl,hx⟩;have X1:=ae hx;clear hx p0 p1 p2;have p0:=al (X1.o.blk uW.o);have p2:=av (X1.o.blk uW.o);have HCP:=ae (kT (L2.o.ext X1.o) (j1 U.o));go_wp2_with fail;refine HCP.o.mono ?_;rintro e w2 ⟨⟨v2,rfl,AR⟩,hx⟩;obtain⟨a2,n2,c2,rfl,ED⟩:=AR.var;have X2:=ae (X1.o.trans hx);have wG:=ae AR;have BQ:=X1.o.size;have J0:=hx.size;clear AR hx p0 p2 DG;go_wp2_with fail;refine(cl 0 _).mono ?_;rintro e w3 ⟨rfl,hx⟩;have X3:=ae (X2.o.trans hx);have vi:=ae (wG.o.ext hx);have Cs:=hx.size;clear hx
 go_wp2_with (first
  | (at_builtin;refine aI rfl _ _ rfl w1.heap.size (.slice a2 n2 c2) _ rfl (vi.o.ext (Ext.alloc _ _)) _ 1 _ [(0,1)] rfl (Rats.one' _ _ _ _ _ e8) (by rw[DQ.o];have:=U.o;omega) (by simp;omega) ?_;intro v5 w5 ho hg l7;have X5:=ae (ak (X3.o.trans (Ext.alloc _ _)) hg (fun j hj=>Nat.le_trans BQ (vi.o.lt j hj).1));obtain⟨a5,n5,p5,rfl,zj⟩:=ho.var;have vU:=ae ho;clear ho hg l7))
 have HAL:=ae (iY (L2.o.ext X5.o));rw[Md.o]at HAL;refine HAL.o.mono ?_;rintro e w6 ⟨rfl,hx⟩;have X6:=ae (X5.o.trans hx);have yT:=ae (vU.o.ext hx);clear hx;go_wp2_with fail
 go_loopg [6,7,8] m (fun gk oo fl ii wr=>∃(k:Nat) (f:Bool) (a1:j6) (n1 p1:Nat) (r:j4),b7 (gk+k=m)/\ii=.int .i64 (k:Int)/\oo=.slice a1 n1 p1/\fl=.bool f/\b7 (cG t cost k=if f=true then some r else none)/\b7 (l9 wr W.heap.size (.slice a1 n1 p1) r)/\b7 (Ext W wr))
 case atStart=>exact⟨0,true,_,_,_,_,ae e7,rfl,rfl,rfl,ae rfl,ae (yT.o.mono BQ),X6⟩
 case round =>
  obtain⟨g1,o6⟩:=b9 gk;subst o6;obtain⟨I,o4⟩:=b9 wr;subst o4;obtain⟨k,f,a1,n1,q1,r,HK,rfl,rfl,rfl,HC,HO,HX⟩:=hrel;have MV:=HX.o.size;have p0:=al (HX.o.blk uW.o);by_cases hlt:k<m
  ·cases f
   ·have HN:=ae (show ch t cost=none by rw[HE.o];exact lq HC.o e7);go_wp2_with fail
    go_ret2
    exact⟨⟨_,eA (by rw[HN.o];rfl),by rw[HN.o];exact l9.made _ _ (j1 uV.o.size)⟩,uV.o.trans (HX.o.trans (Ext.alloc _ _))⟩
   ·have EH:=ae (show cG t cost k=some r from HC.o);have p1:=au (HX.o.blk uW.o);obtain⟨Q,vF,ya,yn,yc,zX,xr,o7⟩:=(H.o.ext HX.o).rows.at hlt;subst zX;obtain⟨eb,Z,AD,xj⟩:=(H.o.ext HX.o).basis.at hlt;subst AD;obtain⟨b,hb⟩:∃b:Nat,t.basis[k]?.getD 0=b:=by
     have:=HT.o.NF _ (List.getElem_mem (l:=t.basis) (n:=k) (by rw[HT.o.zM];exact hlt));exact⟨(t.basis[k]?.getD 0).toNat,by rw[List.getElem?_eq_getElem (by rw[HT.o.zM];exact hlt)];simp;omega⟩
    have DO:b<G:=by
     have h1:=HT.o.NF _ (List.getElem_mem (l:=t.basis) (n:=k) (by rw[HT.o.zM];exact hlt));rw[List.getElem?_eq_getElem (by rw[HT.o.zM];exact hlt),Option.getD_some]at hb;rw[hb]at h1;have:=U.o;omega
    rw[hb]at xj;obtain⟨cb,Bc,c1,E,OL,J,wK,xB⟩:=(L2.o.ext HX.o).at DO;subst OL;have Fc:=aL (xJ.o b DO);rw[J]at Fc;have AM:IntKind.i64.wrap (-c1)=-c1:=by rw[IntKind.wrap_i64];simp only at Fc;omega
    have HCG:=ae (show cG t cost (k+1)=xP r (-c1,E) (t.row k)by rw[KO EH.o,hb,Int.toNat_natCast,J];rfl);have zA:=ae (jh EH.o);have zv:n1<=1048576:=by have h1:=HO.o.uZ.hlen;rw[zA.o,DQ.o]at h1;have:=U.o;omega
    have LV:=ae (fun(wz:World) (hz:Ext I wz)=>ku (k1:=-c1) (k2:=E) (HO.o.ext hz).uZ (show Rats wz ya yn yc (t.row k)from o7.ext hz) zv);obtain⟨sv,Es⟩:=b9 (xP r (-c1,E) (t.row k));have CJ:=ae (show cG t cost (k+1)=sv by rw[HCG.o,Es]);simp only[<-Es]at LV;have BU:(0:Int)<=(k:Int):=by omega
    have hk1':(k:Int)<(m:Int):=by omega
    have Kt:(0:Int)<=(b:Int):=by omega
    have Ks:(b:Int)<(G:Int):=by omega
    clear o7 Fc J Es hb;go_upto_region 8 with fail;have F4:Ext I I.drew:=Ext.drew I;have k7:=F4;clear F4;have k8:=ae (fun(w':World) (h:Ext I w')=>(⟨h.j9 p0,h.j9 p1,h.j9 xr,h.j9 xj,h.j9 wK,h.j9 xB,h⟩:w'.cell? ⟨w.heap.size,0,none⟩=some (.slice (some ⟨Q,vF,none⟩) m rc)/\w'.cell? ⟨w.heap.size,1,none⟩=some (.slice (some ⟨eb,Z,none⟩) m bc)/\w'.cell? ⟨Q,vF+k,none⟩=some (.slice ya yn yc)/\w'.cell? ⟨eb,Z+k,none⟩=some (.int .i64 (b:Int))/\w'.cell? ⟨cb,Bc+b*2,none⟩=some (.int .i64 c1)/\w'.cell? ⟨cb,Bc+b*2+1,none⟩=some (.int .i64 E)/\Ext I w'));refine wp_region_held_drew (S:=(fun w'=>w'.cell? ⟨w.heap.size,0,none⟩=some (.slice (some ⟨Q,vF,none⟩) m rc)/\w'.cell? ⟨w.heap.size,1,none⟩=some (.slice (some ⟨eb,Z,none⟩) m bc)/\w'.cell? ⟨Q,vF+k,none⟩=some (.slice ya yn yc)/\w'.cell? ⟨eb,Z+k,none⟩=some (.int .i64 (b:Int))/\w'.cell? ⟨cb,Bc+b*2,none⟩=some (.int .i64 c1)/\w'.cell? ⟨cb,Bc+b*2+1,none⟩=some (.int .i64 E)/\Ext I w')) e9 ?_ (fun k9=>?_)
    ·exact k8.o _ k7
    refine tk 0 ?_;refine tk 1 ?_;refine tk 2 ?_;refine tk 3 ?_;refine tk 4 ?_;refine tk 5 ?_;refine tk 6 ?_;refine tk 7 ?_;refine tk 8 ?_;refine tk 9 ?_;refine tk 10 ?_;refine tk 11 ?_;refine tk 12 ?_;refine tk 13 ?_;refine tk 14 ?_;refine tk 15 ?_;refine tk 16 ?_;refine tk 17 ?_;refine tk 18 ?_;refine tk 19 ?_;refine tk 20 ?_;refine tk 21 ?_;refine tk 22 ?_;refine tk 23 ?_;refine tk 24 ?_;refine tk 25 ?_;refine rd (i:=26) (h:=fun K hK=>?_);go_simp
    (go_at_call 241;refine(LV.o _ k7).mono ?_;rintro e w3 ⟨⟨v3,rfl,xt⟩,vj⟩;have PQ:=k7.size;have k7:=k7.trans vj;obtain⟨a3,n3,c3,rfl,FF⟩:=xt.var)
    go_wp2_with fail;refine hK.out _ _ ?_ (fun k9=>?_)
    ·exact k8.o _ k7
    clear hK K
    try simp only[Act.put,sA,sB,sC]
    refine tk 27 ?_;refine tk 28 ?_;refine tk 29 ?_;refine tk 30 ?_;refine tk 31 ?_;refine wpAnyH_done e9 ?_ _;have wF:=ae (HX.o.trans k7);have wV:=ae (xt.mono (Nat.le_trans MV PQ));clear k7 xt p0 p1 xr xj wK xB AM;go_wp2_with fail
    go_roundg (g1-1)
    case measure=>have:=HK.o;omega
    case rel=>exact⟨k+1,sv.isSome,a3,n3,c3,sv.getD [],ae (j1 HK.o),by go_num,rfl,rfl,ae (by rw[CJ.o];cases sv<;>rfl),wV,wF⟩
  ·have yV:m=k:=by have:=HK.o;omega
   subst yV;cases f
   ·have HN:=ae (show ch t cost=none by rw[HE.o];exact HC.o);go_wp2_with fail
    go_ret2
    exact⟨⟨_,eA (by rw[HN.o];rfl),by rw[HN.o];exact l9.made _ _ (j1 uV.o.size)⟩,uV.o.trans (HX.o.trans (Ext.alloc _ _))⟩
   ·have HN:=ae (show ch t cost=some r by rw[HE.o];exact HC.o);go_wp2_with fail
    go_ret2
    exact⟨⟨_,eA (by rw[HN.o];rfl),by rw[HN.o];exact HO.o.mono (j1 uV.o.size)⟩,uV.o.trans HX.o⟩
theorem pR(h:Ds w ra m rc ba m bc t)(I:wo n m T0 t)(hn:n<=1000)(hm:m<=1000):
 Calls Tryz.prog 170 #[CR ra m rc ba m bc (n:Int)] w fun e w'=>(∃v,e=.returned v/\l9 w' w.heap.size v (xx t))/\Ext w w':=by
 have uS:=Ext.alloc w (bT ra m rc ba m bc (n:Int));have uV:=ae uS;have H:=ae (h.ext uS);have uW:=ae (show(w.alloc (bT ra m rc ba m bc (n:Int))).heap[w.heap.size]?=some (.cells #[.slice ra m rc,.slice ba m bc,.int .i64 (n:Int)] 116 (0,0))from aj _ _ _ rfl);obtain⟨W,hW⟩:=b9 (w.alloc (bT ra m rc ba m bc (n:Int)));have B9:W.heap.size=w.heap.size+1:=by rw[hW];simp
 have zx:=ae B9;have xm:=h.rows.l8;have yI:=h.rows.o0;have xL:=h.basis.l8;have wU:=h.basis.o0;have HT:=ae I;have Uu:=ae (show xx t=yd t m by unfold xx;rw[if_pos (I.ok hn),I.len]);have FA:=ae (show yd t 0=List.replicate (n+m) (0,1)by simp only[yd];rw[I.q8,I.len];rfl);have zP:=ae (fun k=>show(yd t k).length=n+m by rw[hI,I.q8,I.len];simp);have HO:=ae (l9.made W (w.heap.size+1) e7);have Q:=ae (Ext.alloc W (.cells #[] 62));rw[<-hW]at uV H uW;rw[B9]at HO;have HG:=ae (iZ (H.o.ext Q.o) I hn hm);have DG:IntKind.i64.wrap ((n:Int)+(m:Int))=(n:Int)+(m:Int):=by rw[IntKind.wrap_i64];omega
 clear h I uS B9;go_enter Tryz.func170,Tryz.ntmps170
 go_upto_region 1 with fail;rw[<-hW];clear hW;have B9:=zx.o;have p0:=al (Q.o.blk uW.o);have p1:=au (Q.o.blk uW.o);have p2:=av (Q.o.blk uW.o);go_wp2_with fail;refine HG.o.mono ?_;rintro e w1 ⟨rfl,hx⟩;have X1:=ae (Q.o.trans hx);have Rc:=ae (HO.o.ext hx);clear hx p0 p1 p2;go_wp2_with fail
 go_loopg [3,4] (n+m) (fun gk oo ii wr=>∃(k:Nat) (a1:j6) (E p1:Nat),b7 (gk+k=n+m)/\ii=.int .i64 (k:Int)/\oo=.slice a1 E p1/\b7 (l9 wr (w.heap.size+1) (.slice a1 E p1) (List.replicate k (0,1)))/\b7 (Ext W wr))
 case atStart=>exact⟨0,_,_,_,ae e7,rfl,rfl,Rc,X1⟩
 case round =>
  obtain⟨g1,o6⟩:=b9 gk;subst o6;obtain⟨o8,o4⟩:=b9 wr;subst o4;obtain⟨k,a1,E,q1,HK,rfl,rfl,vw,HX⟩:=hrel;have p0:=al (HX.o.blk uW.o);have p2:=av (HX.o.blk uW.o);have hsz:=HX.o.size;by_cases hlt:k<n+m
  ·have xg:=ae (show(List.replicate k ((0:Int),(1:Int))).length=k by simp);have M6:(k:Int)<(n:Int)+(m:Int):=by omega
   go_wp2_with fail;refine(cl 0 _).mono ?_;rintro e w3 ⟨rfl,hx⟩;have X3:=ae (HX.o.trans hx);have vi:=ae (vw.o.ext hx);have Cs:=X3.o.size;clear hx p0 p2
   go_wp2_with (first
    | (at_builtin;refine aI rfl _ _ rfl (w.heap.size+1) (.slice a1 E q1) _ rfl (vi.o.ext (Ext.alloc _ _)) _ 1 _ [(0,1)] rfl (Rats.one' _ _ _ _ _ e8) (by rw[xg.o];omega) (by simp;omega) ?_;intro v5 w5 ho hg l7;have X5:=ae (ak (X3.o.trans (Ext.alloc _ _)) hg (fun j hj=>by have:=(vi.o.lt j hj).1;omega));obtain⟨a5,n5,p5,rfl,zj⟩:=ho.var;have vU:=ae ho;clear ho hg l7))
   go_roundg (g1-1)
   case measure=>have:=HK.o;omega
   case rel=>exact⟨k+1,a5,n5,p5,ae (j1 HK.o),by go_num,rfl,ae (by have:=vU.o;rw[<-List.replicate_succ']at this;exact this),X5⟩
  ·have Z:k=n+m:=by have:=HK.o;omega
   have M6:¬(k:Int)<(n:Int)+(m:Int):=by omega
   have HKM:=ae Z;have wG:=ae (show l9 o8 (w.heap.size+1) (.slice a1 E q1) (yd t 0)by rw[FA.o,<-Z];exact vw.o);clear Z;go_wp2_with fail;clear p2 M6
   go_loopg [5] m (fun gk ii wr=>∃(k:Nat),b7 (gk+k=m)/\ii=.int .i64 (k:Int)/\b7 (l9 wr (w.heap.size+1) (.slice a1 E q1) (yd t k))/\b7 (Ext W wr))
   case atStart=>exact⟨0,ae e7,rfl,wG,HX⟩
   case round =>
    obtain⟨g2,wv⟩:=b9 gk;subst wv;obtain⟨K,vo⟩:=b9 wr;subst vo;obtain⟨j,HJ,rfl,O,J⟩:=hrel;clear p0;have p0:=al (J.o.blk uW.o);by_cases yW:j<m
    ·have p1:=au (J.o.blk uW.o);have p2:=av (J.o.blk uW.o);obtain⟨zb,vF,ya,U,yc,zX,xr,o7⟩:=(H.o.ext J.o).rows.at yW;subst zX;obtain⟨u,hu⟩:=b9 (n+m);have A5:U=u+1:=by rw[<-o7.hlen,hu];exact(HT.o.row j yW).1
     have LQ:=ae A5;have xG:=o7.l8;have Bt:=o7.o0;have RB:u<=200000:=by omega
     obtain⟨yb,vB,p,q,Bs,vK,EP,EO⟩:=o7.at (show u<U by omega);subst Bs;have wI:=ae (show t.at j u=(p,q)from vK);obtain⟨b,hb⟩:∃b:Nat,t.basis[j]?.getD 0=b:=by
      have:=HT.o.NF _ (List.getElem_mem (l:=t.basis) (n:=j) (by rw[HT.o.zM];exact yW));exact⟨(t.basis[j]?.getD 0).toNat,by rw[List.getElem?_eq_getElem (by rw[HT.o.zM];exact yW)];simp;omega⟩
     have LL:b<n+m:=by
      have h1:=HT.o.NF _ (List.getElem_mem (l:=t.basis) (n:=j) (by rw[HT.o.zM];exact yW));rw[List.getElem?_eq_getElem (by rw[HT.o.zM];exact yW),Option.getD_some]at hb;rw[hb]at h1;omega
     have HB:=ae hb;obtain⟨eb,vd,AD,xj⟩:=(H.o.ext J.o).basis.at yW;subst AD;rw[hb]at xj;have zv:E=u:=by have:=O.o.uZ.hlen;rw[zP.o]at this;omega
     subst zv;obtain⟨G,hG,CB,DN,Hl⟩:=O.o.block (k:=b) e7;subst hG;obtain⟨G',GI,VM,VL,zi,BV,DM,Cx⟩:=O.o.uZ.at (show b<E by omega);simp only[Option.some.injEq,Addr.mk.injEq,and_true]at zi;obtain⟨rfl,rfl⟩:=zi;rw[Nat.zero_add]at DM Cx;have LD:IntKind.i64.wrap ((n:Int)+(m:Int))=(E:Int):=by rw[IntKind.wrap_i64];omega
     have DH:(E:Int)<(U:Int):=by have:=LQ.o;omega
     have JS:(0:Int)<=(E:Int):=by omega
     have Kt:(0:Int)<=(b:Int):=by omega
     have Ks:(b:Int)<(E:Int):=by omega
     have hj0:(0:Int)<=(j:Int):=by omega
     have Vy:(j:Int)<(m:Int):=by omega
     have HU:=ae hu;clear vK o7 A5 hb BV hu DG;go_upto_region 11 with fail
     go_still_tail 20,e9
     have vU:=ae (show l9 ((K.drew.setCell ⟨G,b*2,none⟩ (.int .i64 p)).setCell ⟨G,b*2+1,none⟩ (.int .i64 q)) (w.heap.size+1) (.slice (some ⟨G,0,none⟩) E q1) (yd t (j+1))by
      have h1:=(O.o.ext (Ext.drew K)).set (k:=b) (by rw[zP.o,<-HU.o];omega) p q;have h2:yd t (j+1)=(yd t j).set b (p,q):=by
       simp only[yd];rw[HB.o,Int.toNat_natCast,HT.o.q8,HT.o.len,Int.toNat_natCast,<-HU.o,wI.o]
      rw[h2];exact h1)
     have QB:W.heap.size<=G:=by have:=zx.o;omega
     have AH:=ae (((J.o.trans (Ext.drew K)).setCell (p:=⟨G,b*2,none⟩) QB (.int .i64 p)).setCell (p:=⟨G,b*2+1,none⟩) QB (.int .i64 q));clear LD;go_wp2_with fail
     go_roundg (g2-1)
     case measure=>have:=HJ.o;omega
     case rel=>exact⟨j+1,ae (j1 HJ.o),by go_num,vU,AH⟩
    ·have Cw:m=j:=by have:=HJ.o;omega
     subst Cw;go_wp2_with fail;go_ret;exact⟨⟨_,rfl,by rw[Uu.o];exact O.o.mono e7⟩,uV.o.trans J.o⟩
end
section
variable{w:World}{a:j6}{na ca:Nat}{b:j6}{nb cb:Nat}{c:j6}{nc cc:Nat}{A:j5}{B:j7}{C:j4}
theorem mL(h:Bf w a na ca b nb cb c nc cc A B C)(ok:vG A B C=true):
 Calls Tryz.prog 106 #[Al a na ca b nb cb c nc cc] w fun e w'=>(∃Z vb vs,e=.returned (.agg #[Z,vb,.int .i64 (nc:Int)])/\wS w' w.heap.size Z vb vs (bD A B nc))/\Ext w w':=by
 obtain⟨r1,r2,r3,r4,r5,r6⟩:=co h ok;subst r3;have uS:=(Ext.alloc w (aV a nb ca b nb cb c nc cc)).trans (Ext.alloc _ (.cells #[.slice none 0 0,.slice none 0 0,.int .i64 0] 116));obtain⟨W,hW⟩:=b9 ((w.alloc (aV a nb ca b nb cb c nc cc)).alloc (.cells #[.slice none 0 0,.slice none 0 0,.int .i64 0] 116));rw[<-hW]at uS;have uV:=ae uS;have H:=ae (h.ext uS);have HV:=ae (dO H.o);rw[ok]at HV;have wL:=ae (show W.heap[w.heap.size+1]?=some (.cells #[.slice none 0 0,.slice none 0 0,.int .i64 0] 116 (0,0))by rw[hW];exact aj _ _ _ e8);have uW:=ae (show W.heap[w.heap.size]?=some (.cells #[.slice a nb ca,.slice b nb cb,.slice c nc cc] 68 (0,0))by rw[hW,bU _ _ _ e8];exact aj _ _ _ rfl);have zx:=ae (show W.heap.size=w.heap.size+1+1 by rw[hW];simp);have Iu:=h.a.l8;have It:=h.a.o0;have xL:=h.b.l8;have wU:=h.b.o0;have xB:=h.c.l8;have zC:=h.c.o0;have zk:=ae h.a.hlen;have xi:=ae h.b.hlen;have zS:=ae r4;have EB:=ae r5;have Iz:=ae r6;clear h uS ok r4 r5 r6;go_enter Tryz.func106,Tryz.ntmps106
 go_upto_region 1 with fail;rw[<-hW];clear hW;have p0:=al uW.o;have p1:=au uW.o;have p2:=av uW.o;go_wp2_with fail;refine HV.o.mono ?_;rintro e I ⟨rfl,hx⟩;have X1:=ae hx;have H1:=ae (H.o.ext hx);clear hx p0 p1 p2;have P0:=ae (al (X1.o.blk uW.o));have P1:=ae (au (X1.o.blk uW.o));have P2:=ae (av (X1.o.blk uW.o));have p2:=P2.o;have BQ:w.heap.size+1+1<=I.heap.size:=by have:=X1.o.size;have:=zx.o;omega
 obtain⟨E,hE⟩:=b9 (I.alloc (.cells #[.slice none 0 0,.slice none 0 0,.int .i64 (nc:Int)] 116));have XE:=ae (show Ext I E by rw[hE];exact Ext.alloc _ _)
 have Us:=ae (show Ah E I.heap.size I.heap.size (.slice none 0 0) (.slice none 0 0) (nc:Int) [] [] []by
  rw[hE];exact⟨aj _ _ _ rfl,Nat.le_refl _,World.ownsRow_nil _ _ _ 1,di.nil _ _,o5.nil _ _⟩)
 go_upto_region 4 with fail;rw[<-hE];clear hE p2;have p0:=XE.o.j9 P0.o;go_wp2_with fail
 go_loopg [4] nb (fun gk ii wr=>∃(k:Nat) (Z vb:Value) (vs:List Value),b7 (gk+k=nb)/\ii=.int .i64 (k:Int)/\b7 (Ah wr I.heap.size I.heap.size Z vb (nc:Int) vs ((List.range k).map (cj A B)) ((List.range k).map fun i=>((nc+i:Nat):Int)))/\b7 (Ext I wr))
 case atStart=>exact⟨0,_,_,_,ae e7,rfl,Us,XE⟩
 case round =>
  obtain⟨g1,o6⟩:=b9 gk;subst o6;obtain⟨J,o4⟩:=b9 wr;subst o4;obtain⟨k,Z,vb,vs,HK,rfl,T,HX⟩:=hrel;clear p0;have p0:=HX.o.j9 P0.o;have MV:=HX.o.size;by_cases hlt:k<nb
  ·obtain⟨zb,vF,ya,Q,yc,zX,xr,o7⟩:=(H1.o.ext HX.o).a.at hlt;subst zX;obtain rfl:Q=nc:=by rw[<-o7.hlen];exact zS.o k hlt
   have xG:=o7.l8;have Bt:=o7.o0;obtain⟨eb,vd,AD,xj⟩:=H1.o.b.at hlt;subst AD;obtain⟨O,DO⟩:=b9 (B[k]?.getD 0);rw[<-DO]at xj;have N7:=ae xj;have HZ0:=ae xr;have Vg:=ae DO;have xS:-5000<=O/\O<=5000:=by
    rw[DO,List.getElem?_eq_getElem (by rw[xi.o];exact hlt)];exact Iz.o _ (List.getElem_mem _)
   obtain⟨YH,YG⟩:=xS;obtain⟨G,MX⟩:=b9 (yh O);have Hs:=ae MX;have JZ:(O<0/\G=-1)∨(¬O<0/\G=1):=by rw[MX];exact eW O
   have G8:-1<=G/\G<=1:=by omega
   obtain⟨W4,WY⟩:=G8;have p1:=HX.o.j9 P1.o;have AY:=HX.o.j9 N7.o;have ze:=ae o7;clear o7 DO MX xj
   go_upto_if 29 with fail
   go_cut [5] (fun s6 wx=>s6=.int .i64 G/\J=wx)
   case first =>
    rcases JZ with⟨Aa,rfl⟩|⟨Aa,rfl⟩
    all_goals
     go_wp2_with fail;go_meet;exact⟨rfl,rfl⟩
   obtain⟨rfl,rfl⟩:=hcut;clear JZ;have O4:=ae (l9.made J J.heap.size (Nat.le_refl _));go_wp2_with fail
   go_loopg [6,7] Q (fun gk oo ii wr=>∃(j:Nat) (a1:j6) (n1 q1:Nat),b7 (gk+j=Q)/\ii=.int .i64 (j:Int)/\oo=.slice a1 n1 q1/\b7 (l9 wr J.heap.size (.slice a1 n1 q1) (((A[k]?.getD []).take j).map fun x=>(G*x,(1:Int))))/\b7 (Ext J wr))
   case atStart=>exact⟨0,_,_,_,ae e7,rfl,rfl,O4,ae (Ext.alloc _ _)⟩
   case round =>
    obtain⟨g2,wv⟩:=b9 gk;subst wv;obtain⟨wr2,vo⟩:=b9 wr;subst vo;obtain⟨j,a1,n1,q1,HJ,rfl,rfl,vw,vh⟩:=hrel;clear p0 p1 AY xr;have p2:=(HX.o.trans vh.o).j9 P2.o;by_cases yW:j<Q
    ·have p0:=(HX.o.trans vh.o).j9 P0.o;have xr:=vh.o.j9 HZ0.o;obtain⟨xb,II,Om,uS⟩:=(ze.o.ext vh.o).at yW;subst Om;obtain⟨x,hx⟩:=b9 ((A[k]?.getD [])[j]?.getD 0);rw[<-hx]at uS;have L3:=ae (show j<(A[k]?.getD []).length by rw[zS.o k hlt];exact yW);have ML:-5000<=x/\x<=5000:=by
      rw[hx,List.getElem?_eq_getElem L3.o];exact(EB.o k hlt).2 _ (List.getElem_mem _)
     obtain⟨WE,WD⟩:=ML;have Ct:G*x=x∨G*x=-x∨G*x=0:=by
      have:G=-1∨G=0∨G=1:=by omega
      rcases this with h1|h1|h1<;>subst h1<;>omega
     have GC:-5000<=G*x/\G*x<=5000:=by rcases Ct with h1|h1|h1<;>rw[h1]<;>omega
     obtain⟨z,hz⟩:=b9 (G*x);have JM:wrap64 (G*x)=z:=by rw[hz];unfold wrap64;omega
     have xZ:=ae (show((A[k]?.getD []).take j).map (fun x=>(G*x,(1:Int)))++[(z,1)]=((A[k]?.getD []).take (j+1)).map (fun x=>(G*x,(1:Int)))by
      rw[hz,hx];exact px (fun x=>(G*x,(1:Int))) L3.o)
     have xg:=ae (show(((A[k]?.getD []).take j).map (fun x=>(G*x,(1:Int)))).length=j by rw[List.length_map,List.length_take];have:=L3.o;omega);clear hx hz Ct GC;go_wp2_with fail;rw[JM];clear JM;refine(cl z _).mono ?_;rintro e w3 ⟨rfl,hx⟩;have X3:=ae (vh.o.trans hx);have vi:=ae (vw.o.ext hx);have Cs:=X3.o.size;clear hx
     go_wp2_with (first
      | (at_builtin;refine aI rfl _ _ rfl J.heap.size (.slice a1 n1 q1) _ rfl (vi.o.ext (Ext.alloc _ _)) _ 1 _ [(z,1)] rfl (Rats.one' _ _ _ _ _ e8) (by rw[xg.o];omega) (by simp;omega) ?_;intro v5 w5 ho hg l7;have X5:=ae (ak (X3.o.trans (Ext.alloc _ _)) hg (fun j hj=>(vi.o.lt j hj).1));obtain⟨a5,n5,p5,rfl,zj⟩:=ho.var;have vU:=ae ho;clear ho hg l7))
     go_roundg (g2-1)
     case measure=>have:=HJ.o;omega
     case rel=>exact⟨j+1,a5,n5,p5,ae (j1 HJ.o),by go_num,rfl,ae (by rw[<-xZ.o];exact vU.o),X5⟩
    ·have A6:Q=j:=by have:=HJ.o;omega
     have zO:=ae (show l9 wr2 J.heap.size (.slice a1 n1 q1) ((A[k]?.getD []).map (fun x=>(G*x,(1:Int))))by
      have h1:=vw.o
      rw[List.take_of_length_le (by rw[zS.o k hlt];omega)]at h1;exact h1)
     have H7:=ae (show((A[k]?.getD []).map (fun x=>(G*x,(1:Int)))).length=Q by rw[List.length_map];exact zS.o k hlt);have p0:=(HX.o.trans vh.o).j9 P0.o;have HJN:=ae A6;clear A6;go_wp2_with fail
     go_loopg [6,8] nb (fun gk oo ii wr=>∃(i:Nat) (a1:j6) (n1 q1:Nat),b7 (gk+i=nb)/\ii=.int .i64 (i:Int)/\oo=.slice a1 n1 q1/\b7 (l9 wr J.heap.size (.slice a1 n1 q1) ((A[k]?.getD []).map (fun x=>(G*x,(1:Int)))++(List.range i).map fun i=>if i=k then((1:Int),(1:Int)) else(0,1)))/\b7 (Ext J wr))
     case atStart=>exact⟨0,_,_,_,ae e7,rfl,rfl,ae (by simpa using zO.o),vh⟩
     case round =>
      obtain⟨g3,AT⟩:=b9 gk;subst AT;obtain⟨U,yE⟩:=b9 wr;subst yE;obtain⟨i,a3,n3,q3,HI,rfl,rfl,vi,vk⟩:=hrel;clear p0 p2;have p0:=(HX.o.trans vk.o).j9 P0.o;by_cases Ar:i<nb
      ·have xg:=ae (show((A[k]?.getD []).map (fun x=>(G*x,(1:Int)))++(List.range i).map fun i=>if i=k then((1:Int),(1:Int)) else(0,1)).length=Q+i by rw[List.length_append,H7.o];simp);obtain⟨un,Bl⟩:∃u:Int,u=if i=k then 1 else 0:=⟨_,rfl⟩
       have xZ:=ae (show(List.range i).map (fun i=>if i=k then((1:Int),(1:Int)) else(0,1))++[(un,1)]=(List.range (i+1)).map fun i=>if i=k then((1:Int),(1:Int)) else(0,1)by
        rw[<-cM,Bl];congr 2;split<;>rfl)
       have Kb:((i:Int) == (k:Int))=decide (i=k):=by by_cases h:i=k<;>simp[h]<;>omega
       have Zq:=ae (show vX (decide (i=k))=un by rw[Bl];by_cases h:i=k<;>simp[h,vX]);have Mb:=ae (fun w'=>fD (decide (i=k)) w');rw[Zq.o]at Mb;clear Bl;go_wp2_with (first|(go_at_call 104;refine(Mb.o _).mono ?_;rintro e w2 ⟨rfl,rfl⟩));clear Kb;refine(cl un _).mono ?_;rintro e w3 ⟨rfl,hx⟩;have X3:=ae (vk.o.trans hx);have wV:=ae (vi.o.ext hx);have Cs:=X3.o.size;clear hx
       go_wp2_with (first
        | (at_builtin;refine aI rfl _ _ rfl J.heap.size (.slice a3 n3 q3) _ rfl (wV.o.ext (Ext.alloc _ _)) _ 1 _ [(un,1)] rfl (Rats.one' _ _ _ _ _ e8) (by rw[xg.o];omega) (by simp;omega) ?_;intro v5 w5 ho hg l7;have X5:=ae (ak (X3.o.trans (Ext.alloc _ _)) hg (fun j hj=>(wV.o.lt j hj).1));obtain⟨a5,n5,p5,rfl,zj⟩:=ho.var;have vU:=ae ho;clear ho hg l7))
       go_roundg (g3-1)
       case measure=>have:=HI.o;omega
       case rel=>exact⟨i+1,a5,n5,p5,ae (j1 HI.o),by go_num,rfl,ae (by have:=vU.o;rw[List.append_assoc,xZ.o]at this;exact this),X5⟩
      ·have wq:i=nb:=by have:=HI.o;omega
       subst wq;obtain⟨z2,A4⟩:=b9 (G*O);have Ct:G*O=O∨G*O=-O∨G*O=0:=by
        have:G=-1∨G=0∨G=1:=by omega
        rcases this with h1|h1|h1<;>subst h1<;>omega
       have MM:IntKind.i64.wrap (G*O)=z2:=by
        rw[IntKind.wrap_i64,A4];rcases Ct with h1|h1|h1<;>rw[h1]<;>omega
       have Zy:=ae (show((A[k]?.getD []).map (fun x=>(G*x,(1:Int)))++(List.range i).map fun i=>if i=k then((1:Int),(1:Int)) else(0,1))++[(z2,1)]=cj A B k by
        unfold cj;rw[<-Vg.o,<-Hs.o,A4,zk.o,qr])
       have xg:=ae (show((A[k]?.getD []).map (fun x=>(G*x,(1:Int)))++(List.range i).map fun i=>if i=k then((1:Int),(1:Int)) else(0,1)).length=Q+i by rw[List.length_append,H7.o];simp);have xJ:=ae (show vs.length=k by rw[T.o.rows.len];simp);have t0:=al T.o.box;have p1:=HX.o.j9 P1.o;have AY:=HX.o.j9 N7.o;have BU:(0:Int)<=(k:Int):=by omega
       have yx:(k:Int)<(i:Int):=by omega
       clear A4 Ct;go_upto_region 19 with fail;have Bv:Ext U U.drew:=Ext.drew U;have k7:Ext J U.drew:=vk.o.trans Bv;have k8:=ae (fun(w':World) (h:Ext J w')=>(⟨h.j9 t0,h.j9 p1,h.j9 AY,HX.o.trans h⟩:w'.cell? ⟨I.heap.size,0,none⟩=some Z/\w'.cell? ⟨w.heap.size,1,none⟩=some (.slice (some ⟨eb,vd,none⟩) i cb)/\w'.cell? ⟨eb,vd+k,none⟩=some (.int .i64 O)/\Ext I w'));refine dr (M:=[16]) (S:=fun w'=>w'.cell? ⟨I.heap.size,0,none⟩=some Z/\w'.cell? ⟨w.heap.size,1,none⟩=some (.slice (some ⟨eb,vd,none⟩) i cb)/\w'.cell? ⟨eb,vd+k,none⟩=some (.int .i64 O)/\Ext I w') e9 ?_;have k9:=k8.o _ k7;refine lp 0 ?_;refine ll 1 ?_;refine lp 2 ?_;refine lp 3 ?_;refine lp 4 ?_;refine ll 5 ?_;refine lp 6 ?_;refine lp 7 ?_;refine ll 8 ?_;refine lp 9 ?_;refine aW (i:=10) (oi:=?_) ?_ ?_ ?_ (fun K hK=>?_);rotate_left
       ·simp only[gA,gB,gC];rfl
       ·kernel_rfl
       ·kernel_rfl
       go_simp;go_at_call 49;refine(cl _ _).mono ?_;rintro e w5 ⟨rfl,wX⟩;have Bv:Ext U w5:=Bv.trans wX;have k7:Ext J w5:=k7.trans wX;have Bm:=k7.size;go_wp2_with fail;refine hK.out _ _ (fun _=>k8.o _ k7) ?_;have k9:=k8.o _ k7;clear hK K
       try simp only[Act.put,sA,sB,sC]
       refine aW (i:=11) (oi:=?_) ?_ ?_ ?_ (fun K hK=>?_);rotate_left
       ·simp only[gA,gB,gC];rfl
       ·kernel_rfl
       ·kernel_rfl
       go_simp;refine hK.out _ _ (fun _=>k8.o _ (k7.trans (Ext.alloc _ _))) ?_;clear hK K
       try simp only[Act.put,sA,sB,sC]
       refine aW (i:=12) (oi:=?_) ?_ ?_ ?_ (fun K hK=>?_);rotate_left
       ·simp only[gA,gB,gC];rfl
       ·kernel_rfl
       ·kernel_rfl
       refine cU _ _ j0 J.heap.size (.slice a3 n3 q3) _ j0 ((vi.o.ext Bv).ext (Ext.alloc _ _)) _ 1 _ [(z2,1)] j0 (Rats.one' _ _ _ _ _ rfl) (by rw[xg.o];omega) (by simp;omega) ?_;intro v6 w6 ho hg l7;obtain⟨a6,n6,q6,rfl,Eh⟩:=ho.var;have yT:=ae ho;have Dm:Ext J w6:=ak (k7.trans (Ext.alloc _ _)) hg (fun j hj=>(vi.o.lt j hj).1);have W7:=Dm.size;clear ho hg l7;refine hK.out _ _ (fun _=>k8.o _ Dm) ?_;have k9:=k8.o _ Dm;clear hK K
       try simp only[Act.put,sA,sB,sC]
       refine aW (i:=13) (oi:=?_) ?_ ?_ ?_ (fun K hK=>?_);rotate_left
       ·simp only[gA,gB,gC];rfl
       ·kernel_rfl
       ·kernel_rfl
       go_simp;refine hK.out _ _ (fun _=>k8.o _ (Dm.trans (Ext.alloc _ _))) ?_;clear hK K
       try simp only[Act.put,sA,sB,sC]
       refine aW (i:=14) (oi:=?_) ?_ ?_ ?_ (fun K hK=>?_);rotate_left
       ·simp only[gA,gB,gC];rfl
       ·kernel_rfl
       ·kernel_rfl
       refine eu _ _ j0 I.heap.size Z vs j0 ((T.o.a.ext Dm).ext (Ext.alloc _ _)) _ _ 1 j0 (by simp;rfl) rfl (by rw[xJ.o];omega) (by simp;omega) ?_;intro v7 w7 ho hg l7;obtain⟨a7,n7,q7,rfl,DP⟩:=ho.var;have Fj:=ae ho;have Lm:=ae hg;have yi:=T.o.F' (Dm.trans (Ext.alloc _ _)) hg;have LN:=al yi;have VO:=cO yi;have CZ:Ext I w7:=ak ((HX.o.trans Dm).trans (Ext.alloc _ _)) hg (fun j hj=>(T.o.a.lt j hj).1);clear ho hg l7 yi;refine hK.out _ _ (fun _=>And.intro LN (And.intro (CZ.j9 P1.o) (And.intro (CZ.j9 N7.o) CZ))) ?_;have k9:=And.intro LN (And.intro (CZ.j9 P1.o) (And.intro (CZ.j9 N7.o) CZ));clear hK K
       try simp only[Act.put,sA,sB,sC]
       refine lp 15 ?_;refine dH (i:=16) (oi:=?_) (w':=?_) ?_ ?_ ?_ ?_ ?_ ?_ ?_;rotate_left 2
       ·simp only[gA,gB,gC];rfl
       ·kernel_rfl
       ·kernel_rfl
       ·exact of_decide_eq_true e9
       ·rfl
       ·go_simp;(try with_reducible rfl)
       try simp only[Act.put,sA,sB,sC]
       refine dM e9 ?_ _;have EA:=ae (T.o.Ch (Dm.trans (Ext.alloc _ _)) (yT.o.ext (Ext.alloc _ _)) MV Lm.o Fj.o);have K0:=ae (CZ.setCell (p:=⟨I.heap.size,0,none⟩) (Nat.le_refl _) (.slice a7 n7 q7));obtain⟨W8,Qu⟩:=b9 (w7.setCell ⟨I.heap.size,0,none⟩ (.slice a7 n7 q7));rw[<-Qu]at EA K0;go_upto_region 20 with fail;rw[<-Qu];clear Qu LN VO k9;have b1:=au EA.o.box;have p2:=Ext.j9 K0.o P2.o;have bf:=cO EA.o.box;have hl8:=lt_of_block EA.o.box;have B0:=ae (show((List.range k).map fun i=>((Q+i:Nat):Int)).length=k by simp)
       go_wp2_with (first
        | (at_builtin;refine bv rfl _ _ rfl I.heap.size vb _ rfl (EA.o.b.ext (Ext.alloc _ _)) _ 1 _ [(Q:Int)+(k:Int)] rfl (Ints.zp _ _ _ _ e8) (by rw[B0.o];omega) (by simp;omega) ?_;intro v9 w9 ho hg l7;obtain⟨a9,n9,q9,rfl,LZ⟩:=ho.var;have Dz:=ae ho;have Rm:=ae hg;have yi:=EA.o.Hm (Ext.alloc _ _) hg;have VQ:=au yi;have VN:=cO yi;have Qr:Ext I w9:=ak (Ext.trans K0.o (Ext.alloc _ _)) hg (fun j hj=>(EA.o.b.lt j hj).1);clear ho hg l7 yi))
       have Gg:=ae (EA.o.pushB (Ext.alloc _ _) Rm.o Dz.o);have D7:=ae (Qr.setCell (p:=⟨I.heap.size,1,none⟩) (Nat.le_refl _) (.slice a9 n9 q9))
       go_roundg (g1-1)
       case measure=>have:=HK.o;omega
       case rel=>exact⟨k+1,_,_,_,ae (j1 HK.o),by go_num,ae (by
        have h1:=Gg.o;rw[Zy.o,cM]at h1;have h2:((List.range k).map fun i=>((Q+i:Nat):Int))++[(Q:Int)+(k:Int)]=(List.range (k+1)).map fun i=>((Q+i:Nat):Int):=by
         rw[<-cM];simp
        rw[h2]at h1
        exact h1),D7⟩
  ·have vZ:nb=k:=by have:=HK.o;omega
   subst vZ;have GP:=ae (show wS J I.heap.size Z vb vs (bD A B nc)by have:=T.o.own;unfold bD;rw[zk.o];exact this);have t0:=al T.o.box;have t1:=au T.o.box;have t2:=av T.o.box;obtain⟨a7,n7,c7,rfl,DP⟩:=T.o.a.var;obtain⟨a8,n8,c8,rfl,Eg⟩:=T.o.b.var;have xw:=X1.o.trans HX.o;have r0:=al (xw.blk wL.o);have r1:=au (xw.blk wL.o);have r2:=av (xw.blk wL.o);have rf:=cO (xw.blk wL.o);have XW:=ae xw;clear xw;go_wp2_with fail;refine bodyPost_ret (v:=.agg #[.slice a7 n7 c7,.slice a8 n8 c8,.int .i64 (nc:Int)]) (by simp[results,Tryz.results106,go_sem,r0,r1,r2,rf]) rfl ⟨⟨_,_,vs,rfl,?_⟩,(uV.o.trans XW.o).zl (Nat.le_succ _) _ _ _⟩;exact(GP.o.wW fun k hk=>cz _ _ _ _ _ _ e7).mono e7
end
end Go.Proofs.YtdadoignenffgaaGreatDoor
