import Derived.Test.YtdadoignenffgaaGreatDoorSvAllG20
import Derived.Test.YtdadoignenffgaaGreatDoorSvAllG21
import Derived.Test.YtdadoignenffgaaGreatDoorSvAllG17
set_option linter.unusedVariables false
set_option linter.unusedSimpArgs false
namespace Go.Proofs.YtdadoignenffgaaGreatDoor
variable{l:j7}{w:World}{a:j6}{n:Nat}
set_option maxHeartbeats 16000000
set_option maxRecDepth 100000
open Go.RowKit
theorem jf{α:Type}{p:α->Bool}{l:List α}{k:Nat}{d:α}(h:k<l.length):(l.take (k+1)).all p=((l.take k).all p&&p (l[k]?.getD d)):=by
 rw[List.take_succ_eq_append_getElem h,List.all_append,List.getElem?_eq_getElem h];simp
theorem fW{α:Type}{p:α->Bool}{l:List α}{k:Nat}{d:α}(h:k<l.length)(hb:p (l[k]?.getD d)=false):l.all p=false:=by
 rw[List.all_eq_false];exact⟨l[k],List.getElem_mem h,by rw[List.getElem?_eq_getElem h]at hb;simpa using hb⟩
theorem ob{cap:Nat}(h:Ints w a n cap l):
 Calls Tryz.prog 164 #[.slice a n cap] w fun e w'=>e=.returned (.bool (l.all (r' · (-5000) 5000)))/\w=w':=by
 have l8:=h.l8;have o0:=h.o0;have HL:=ae h.hlen;have HI:=ae h;clear h;go_enter Tryz.func164,Tryz.ntmps164
 go_wp2_with fail
 go_loopg [3] n (fun gk ii wr=>∃k:Nat,b7 (gk+k=n)/\ii=.int .i64 (k:Int)/\b7 ((l.take k).all (r' · (-5000) 5000)=true)/\w=wr)
 case atStart=>exact⟨0,ae e7,rfl,ae rfl,rfl⟩
 case round =>
  obtain⟨k,E,rfl,HA,rfl⟩:=hrel;by_cases hlt:k<n
  ·obtain⟨b,off,rfl,wK⟩:=HI.o.at hlt;obtain⟨x,hx⟩:=b9 (l[k]?.getD 0);rw[<-hx]at wK;have HC:=ae (bm x (-5000) 5000 w);cases hb:r' x (-5000) 5000
   all_goals
    rw[hb]at HC
   ·have HF:=ae (show l.all (r' · (-5000) 5000)=false from fW (d:=0) (by rw[HL.o];exact hlt) (by rw[<-hx];exact hb));clear hx hb;go_wp2_with (first|(go_at_call 45;refine HC.o.mono ?_;rintro e w2 ⟨rfl,rfl⟩));go_ret;exact⟨ai HF.o.symm,rfl⟩
   ·have HT:=ae (show(l.take (k+1)).all (r' · (-5000) 5000)=true by rw[jf (d:=0) (by rw[HL.o];exact hlt),HA.o,<-hx,hb];rfl);clear hx hb;go_wp2_with (first|(go_at_call 45;refine HC.o.mono ?_;rintro e w2 ⟨rfl,rfl⟩))
    go_roundg (gk-1)
    case measure=>have:=E.o;omega
    case rel=>exact⟨k+1,ae (j1 E.o),by go_num,HT,rfl⟩
  ·have HT:=ae (show l.take k=l from List.take_of_length_le (by rw[HL.o];have:=E.o;omega));go_wp2_with fail;go_ret;exact⟨ai (by have:=HA.o;rw[HT.o]at this;exact this.symm),rfl⟩
section
variable{w:World}{a:j6}{na ca:Nat}{b:j6}{nb cb:Nat}{c:j6}{nc cc:Nat}{A:j5}{B:j7}{C:j4}
theorem je{A:j5}{B:j7}{C:j4}(h:A.all (dJ C.length)=false):vG A B C=false:=by rw[iA,h];simp
theorem dO(h:Bf w a na ca b nb cb c nc cc A B C):
 Calls Tryz.prog 105 #[Al a na ca b nb cb c nc cc] w fun e w'=>e=.returned (.bool (vG A B C))/\Ext w w':=by
 have uS:=Ext.alloc w (aV a na ca b nb cb c nc cc);have uV:=ae uS;have H:=ae (h.ext uS);have HE:=ae (iA A B C);have uW:=ae (show(w.alloc (aV a na ca b nb cb c nc cc)).heap[w.heap.size]?=some (.cells #[.slice a na ca,.slice b nb cb,.slice c nc cc] 68 (0,0))from aj _ _ _ rfl);have Iu:=h.a.l8;have It:=h.a.o0;have xL:=h.b.l8;have wU:=h.b.o0;have xB:=h.c.l8;have zC:=h.c.o0;have zk:=ae h.a.hlen;have xi:=ae h.b.hlen;have yw:=ae h.c.hlen;clear h uS;go_enter Tryz.func105,Tryz.ntmps105
 go_upto_region 1 with fail;obtain⟨W,hW⟩:=b9 (w.alloc (aV a na ca b nb cb c nc cc));rw[<-hW]at uV H uW;rw[<-hW];clear hW;go_wp2_with fail
 go_loopg [3] na (fun gk ii wr=>∃k:Nat,b7 (gk+k=na)/\ii=.int .i64 (k:Int)/\b7 ((A.take k).all (dJ nc)=true)/\b7 (Ext W wr))
 case atStart=>exact⟨0,ae e7,rfl,ae rfl,ae (Ext.refl _)⟩
 case round =>
  obtain⟨g1,o6⟩:=b9 gk;subst o6;obtain⟨E,o4⟩:=b9 wr;subst o4;obtain⟨k,Q,rfl,HA,HX⟩:=hrel;have p0:=al (HX.o.blk uW.o);have p2:=av (HX.o.blk uW.o);by_cases hlt:k<na
  ·obtain⟨I,O,ra,rn,rc,P8,J,o7⟩:=(H.o.ext HX.o).a.at hlt;subst P8;have U:=ae o7.hlen;have zu:=o7.l8;have S4:=o7.o0;have L1:=ae (show k<A.length by rw[zk.o];exact hlt);have ze:=ae o7;have BU:(0:Int)<=(k:Int):=by omega
   have yx:(k:Int)<(na:Int):=by omega
   clear o7;go_upto_region 4 with fail;have k7:Ext E E.drew:=Ext.drew E;by_cases hl:rn=nc
   ·subst hl;have hne:((rn:Int) != (rn:Int))=false:=by simp
    obtain⟨sm,hsm⟩:=b9 ((A[k]?.getD []).all (r' · (-5000) 5000));have G:=ae (show dJ rn (A[k]?.getD [])=sm by unfold dJ;rw[U.o,hsm];simp);have NP:=ae (fun(W':World) (hx:Ext E W')=>ob (ze.o.ext hx));simp only[<-hsm]at NP;clear hsm;refine wp_region_held_drew (S:=(fun w'=>w'.cell? ⟨w.heap.size,0,none⟩=some (.slice (some ⟨I,O,none⟩) na ca)/\w'.cell? ⟨w.heap.size,2,none⟩=some (.slice c rn cc)/\w'.cell? ⟨I,O+k,none⟩=some (.slice ra rn rc)/\Ext E w')) e9 ?_ (fun k9=>?_)
    ·exact⟨k7.j9 p0,k7.j9 p2,k7.j9 J,k7⟩
    refine tk 0 ?_;refine tk 1 ?_;refine tk 2 ?_;refine tk 3 ?_;refine tk 4 ?_;refine tk 5 ?_;refine tk 6 ?_;refine tk 7 ?_;refine tk 8 ?_;refine tk 9 ?_;refine tk 10 ?_;refine tk 11 ?_;refine tk 12 ?_;refine tk 13 ?_;refine tk 14 ?_;refine tk 15 ?_;refine rd (i:=16) (h:=fun K hK=>?_);go_simp
    (go_at_call 164;refine(NP.o _ k7).mono ?_;rintro e w3 ⟨rfl,rfl⟩)
    go_wp2_with fail;refine hK.out _ _ ?_ (fun k9=>?_)
    ·exact⟨k7.j9 p0,k7.j9 p2,k7.j9 J,k7⟩
    clear hK K
    try simp only[Act.put,sA,sB,sC]
    refine tk 17 ?_;refine tk 18 ?_;refine wpAnyH_done e9 ?_ _;have Z:=ae (HX.o.trans k7);clear p0 p2 J k7;cases sm
    ·have HF:=ae (show vG A B C=false from je (fX L1.o (by rw[yw.o];exact G.o)));go_wp2_with fail;go_ret;exact⟨ai HF.o.symm,uV.o.trans Z.o⟩
    ·have HT:=ae (show(A.take (k+1)).all (dJ rn)=true by rw[mP L1.o,HA.o,G.o];rfl);go_wp2_with fail
     go_roundg (g1-1)
     case measure=>have:=Q.o;omega
     case rel=>exact⟨k+1,ae (j1 Q.o),by go_num,HT,Z⟩
   ·have hne:((rn:Int) != (nc:Int))=true:=by simp;omega
    have HF:=ae (show vG A B C=false from je (fX L1.o (by unfold dJ;rw[U.o,yw.o,decide_eq_false hl];rfl)));clear hl;refine wp_region_held_drew (S:=(fun w'=>w'.cell? ⟨w.heap.size,0,none⟩=some (.slice (some ⟨I,O,none⟩) na ca)/\w'.cell? ⟨w.heap.size,2,none⟩=some (.slice c nc cc)/\w'.cell? ⟨I,O+k,none⟩=some (.slice ra rn rc)/\Ext E w')) e9 ?_ (fun k9=>?_)
    ·exact⟨k7.j9 p0,k7.j9 p2,k7.j9 J,k7⟩
    refine tk 0 ?_;refine tk 1 ?_;refine tk 2 ?_;refine tk 3 ?_;refine tk 4 ?_;refine tk 5 ?_;refine tk 6 ?_;refine tk 7 ?_;refine tk 8 ?_;refine tk 9 ?_;refine tk 10 ?_;refine sk 11 ?_;refine sk 12 ?_;refine sk 13 ?_;refine sk 14 ?_;refine sk 15 ?_;refine sk 16 ?_;refine sk 17 ?_;refine tk 18 ?_;refine wpAnyH_done e9 ?_ _;go_wp2_with fail;go_ret;exact⟨ai HF.o.symm,uV.o.trans (HX.o.trans k7)⟩
  ·have vZ:na=k:=by have:=Q.o;omega
   subst vZ;have HT:=ae (show A.all (dJ nc)=true by have:=HA.o;rwa [List.take_of_length_le (by rw[zk.o];exact Nat.le_refl _)]at this);have p1:=au (HX.o.blk uW.o)
   have zz:=ae (show vG A B C=(decide (nc<=70)&&(decide (na<=8)&&(decide (nb=na)&&(B.all (r' · (-5000) 5000)&&xC C))))by
    rw[HE.o,zk.o,xi.o,yw.o,HT.o];cases xC C<;>simp)
   by_cases h1:nc<=70
   ·by_cases h2:na<=8
    ·by_cases h3:nb=na
     ·subst h3;have xS:((nb:Int) == (nb:Int))=true:=by simp
      have P5:(nc:Int)<=70:=by omega
      have Tl:(nb:Int)<=8:=by omega
      have NP:=ae (ob (H.o.ext HX.o).b);have Md:=ae (iY (H.o.ext HX.o).c);cases hs:B.all (r' · (-5000) 5000)
      ·have HF:=ae (show vG A B C=false by rw[zz.o,hs];simp);rw[hs]at NP;clear hs;go_wp2_with fail;refine NP.o.mono ?_;rintro e w3 ⟨rfl,rfl⟩;go_wp2_with fail;go_ret;exact⟨ai HF.o.symm,uV.o.trans HX.o⟩
      ·have HF:=ae (show vG A B C=xC C by rw[zz.o,hs,decide_eq_true h1,decide_eq_true h2,decide_eq_true rfl];rfl);rw[hs]at NP;clear hs;go_wp2_with fail;refine NP.o.mono ?_;rintro e w3 ⟨rfl,rfl⟩;go_wp2_with fail;refine Md.o.mono ?_;rintro e w3 ⟨rfl,hx⟩;go_wp2_with fail;go_ret;exact⟨ai HF.o.symm,uV.o.trans (HX.o.trans hx)⟩
     ·have HF:=ae (show vG A B C=false by rw[zz.o,decide_eq_false h3];simp);have xS:((nb:Int) == (na:Int))=false:=by simp;omega
      have P5:(nc:Int)<=70:=by omega
      have Tl:(na:Int)<=8:=by omega
      go_wp2_with fail;go_ret;exact⟨ai HF.o.symm,uV.o.trans HX.o⟩
    ·have HF:=ae (show vG A B C=false by rw[zz.o,decide_eq_false h2];simp);have P5:(nc:Int)<=70:=by omega
     have Tl:¬(na:Int)<=8:=by omega
     go_wp2_with fail;go_ret;exact⟨ai HF.o.symm,uV.o.trans HX.o⟩
   ·have HF:=ae (show vG A B C=false by rw[zz.o,decide_eq_false h1];simp);have P5:¬(nc:Int)<=70:=by omega
    go_wp2_with fail;go_ret;exact⟨ai HF.o.symm,uV.o.trans HX.o⟩
end
theorem kO{b:j6}{cap W I:Nat}{A B:j4}(h:Rats w a n cap A)(h':Rats w b W I B):
 Calls Tryz.prog 176 #[.slice a n cap,.slice b W I] w fun e w'=>e=.returned (Bq (vS (vg A B)))/\Ext w w':=by
 have HL:=ae h.hlen;have Ll:=ae h'.hlen;have l8:=h.l8;have o0:=h.o0;have Kp:=h'.l8;have Ka:=h'.o0;have uS:=Ext.alloc w (.cells #[.int .i64 0,.int .i64 0] 62);have Z4:=ae (h.ext uS);have Z3:=ae (h'.ext uS);have uV:=ae uS;have wi:=ae (show(w.alloc (.cells #[.int .i64 0,.int .i64 0] 62)).heap[w.heap.size]?=some (.cells #[.int .i64 0,.int .i64 0] 62 (0,0))from aj _ _ _ rfl);clear h h' uS;by_cases hne:n=W
 ·subst hne;have HD:=ae (show vg A B=xU A B n by unfold vg;rw[HL.o,Ll.o,if_pos rfl]);have LH:((n:Int) != (n:Int))=false:=by simp
  go_enter Tryz.func176,Tryz.ntmps176
  go_wp2_with fail;refine(cl 0 _).mono ?_;rintro e w1 ⟨rfl,vO⟩;have vh:=ae vO;have BM:=ae (ag.new (Ext.refl w1) 0 1);have zD:=ae (fun(w':World) (hx:Ext w1 w')=>(hx.block _ (by have:=lt_of_block wi.o;have:=vh.o.size;omega)).trans ((vh.o.block _ (lt_of_block wi.o)).trans wi.o));have Ey:=ae (uV.o.trans vh.o);have PO:w.heap.size<w1.heap.size:=by have:=lt_of_block wi.o;have:=vh.o.size;omega
  clear vO;go_wp2_with fail
  go_loopg [7] n (fun gk ii wr=>∃(k:Nat) (p q:Int),b7 (gk+k=n)/\ii=.int .i64 (k:Int)/\b7 (ag w1 wr w1.heap.size p q)/\b7 (xU A B k=some (p,q)))
  case atStart=>exact⟨0,0,1,ae e7,rfl,BM,ae rfl⟩
  case round =>
   obtain⟨g1,o6⟩:=b9 gk;subst o6;obtain⟨E,o4⟩:=b9 wr;subst o4;obtain⟨k,p,q,HK,rfl,HB,HT⟩:=hrel;have At:=HB.o.c0;have xL:=HB.o.c1;have LL:=HB.o.lt;have WQ:=HB.o.ext.size;by_cases hlt:k<n
   ·obtain⟨ab,Q,ax,ay,ha,GD,zH,zG⟩:=(Z4.o.ext (vh.o.trans HB.o.ext)).at hlt;obtain⟨bb,U,Z,G,hb,yi,CA,Cz⟩:=(Z3.o.ext (vh.o.trans HB.o.ext)).at hlt;subst ha hb;obtain⟨mx,my,one,hm⟩:∃x y ok,mulR (ax,ay) (Z,G)=((x,y),ok):=⟨_,_,_,rfl⟩;have HM:=ae hm;obtain⟨p2,O,two,EW⟩:∃u v ok,we (p,q) (mx,my)=((u,v),ok):=⟨_,_,_,rfl⟩;have yX:=ae EW;have xh:=ae (show xU A B (k+1)=if one=true/\two=true then some (p2,O) else none by rw[mZ HT.o,GD,yi,hm];simp only;rw[EW]);clear GD yi hm EW;go_upto_region 7 with fail
    go_cut [8,9] (fun sx so wx=>∃g:Nat,sx=.pointer (some ⟨g,0,none⟩)/\so=.bool one/\b7 (ag E wx g mx my))
    case first =>
     have k7:Ext E E.drew:=Ext.drew E;have vt:Ext E (E.alloc (.cells #[.int .i64 0,.int .i64 0] 62)).drew:=(Ext.alloc _ _).trans (Ext.drew _);have k8:=ae (fun(w':World) (h:Ext E w')=>(⟨h.j9 zH,h.j9 zG,h.j9 CA,h.j9 Cz,h⟩:w'.cell? ⟨ab,Q+k*2,none⟩=some (.int .i64 ax)/\w'.cell? ⟨ab,Q+k*2+1,none⟩=some (.int .i64 ay)/\w'.cell? ⟨bb,U+k*2,none⟩=some (.int .i64 Z)/\w'.cell? ⟨bb,U+k*2+1,none⟩=some (.int .i64 G)/\Ext E w'))
     go_region_held3 (fun w'=>w'.cell? ⟨ab,Q+k*2,none⟩=some (.int .i64 ax)/\w'.cell? ⟨ab,Q+k*2+1,none⟩=some (.int .i64 ay)/\w'.cell? ⟨bb,U+k*2,none⟩=some (.int .i64 Z)/\w'.cell? ⟨bb,U+k*2+1,none⟩=some (.int .i64 G)/\Ext E w')
      (first
        | with_reducible exact k8.o _ k7
        | with_reducible exact k8.o _ vt
        | with_reducible exact k8.o _ ((k7.setCell (by first|(simp;done)|(simp;omega)) _).setCell (by first|(simp;done)|(simp;omega)) _)
        | with_reducible exact k8.o _ (k7.trans (Ext.alloc _ _))
        | with_reducible exact k8.o _ (p4.put _ _).ext)
      (first
        | (go_at_call 223
           (with_reducible refine(pQ ax ay Z G _).mono ?_)
           rw[HM.o];rintro e w3 ⟨rfl,K⟩
           first|(with_reducible have p4:=ag.grow p4 K)|(with_reducible have p4:=ag.vm K)|(with_reducible have p4:=ag.vq k7 K)|skip
           first|(have Ag:=p4.c0;have Af:=p4.c1;have Bb:=p4.free)|skip
           have k7:Ext E w3:=by first|with_reducible exact k7.trans K|with_reducible exact vt.trans K|with_reducible exact(k7.trans (Ext.alloc _ _)).trans K
           have xu:=k7.size)
        | fail)
     all_goals(go_wp2_with fail;go_meet;first|exact⟨_,rfl,rfl,ae (p4.put _ _)⟩|exact⟨_,rfl,rfl,ae (ag.new k7 _ _)⟩|exact⟨_,rfl,rfl,ae (ag.new' k7 _ _ e8)⟩)
    obtain⟨g,rfl,rfl,wy⟩:=hcut;have g0:=wy.o.c0;have g1':=wy.o.c1;have Ns:=HB.o.grow wy.o.ext;have Kt:=Ns.c0;have Ks:=Ns.c1;have yF:=ae Ns;clear At xL zH zG CA Cz Ns;go_wp2_with fail;refine(gY p q mx my _).mono ?_;rw[yX.o];rintro e w4 ⟨rfl,vW⟩;have J:=ae (yF.o.grow vW);have DU:=ae (J.o.grow (Ext.alloc _ (.cells #[.int .i64 p2,.int .i64 O] 62)));have hr:=ah (zD.o _ DU.o.ext);obtain⟨xA,xm,CT⟩:=hr;have AH:=ae DU.o.ext;have Qm:=DU.o.free;have TN:=J.o.lt;have Gy:=J.o.ext.size;have h40:=J.o.c0;have h41:=J.o.c1;have h4f:=J.o.free;clear vW g0 g1' Kt Ks;cases one
    ·have HN:=ae (show vg A B=none by rw[HD.o];exact ik (k:=k+1) (by rw[xh.o];simp) hlt);go_wp2_with fail;refine bodyPost_ret (v:=.tuple #[.agg #[.int .i64 0,.int .i64 0],.bool false]) (by simp[results,Tryz.results176,go_sem,xA,xm]) rfl ⟨by rw[HN.o];rfl,(((Ey.o.trans AH.o).store 0 (Nat.le_refl _) _).store 1 (Nat.le_refl _) _)⟩
    ·cases two
     ·have HN:=ae (show vg A B=none by rw[HD.o];exact ik (k:=k+1) (by rw[xh.o];simp) hlt);go_wp2_with fail;refine bodyPost_ret (v:=.tuple #[.agg #[.int .i64 0,.int .i64 0],.bool false]) (by simp[results,Tryz.results176,go_sem,xA,xm]) rfl ⟨by rw[HN.o];rfl,(((Ey.o.trans AH.o).store 0 (Nat.le_refl _) _).store 1 (Nat.le_refl _) _)⟩
     ·have zO:=ae (show xU A B (k+1)=some (p2,O)by rw[xh.o];simp);have DT:=ae ((J.o.put p2 O).grow (Ext.alloc _ (.cells #[.int .i64 p2,.int .i64 O] 62)));go_wp2_with fail
      go_roundg (g1-1)
      case measure=>have:=HK.o;omega
      case rel=>exact⟨k+1,p2,O,ae (j1 HK.o),by go_num,DT,zO⟩
   ·have vZ:n=k:=by have:=HK.o;omega
    subst vZ;have HY:=ae (show vg A B=some (p,q)by rw[HD.o];exact HT.o);have hr:=ah (zD.o E HB.o.ext);obtain⟨xA,xm,CT⟩:=hr;go_wp2_with fail;refine bodyPost_ret (v:=.tuple #[.agg #[.int .i64 p,.int .i64 q],.bool true]) (by simp[results,Tryz.results176,go_sem,xA,xm]) rfl ⟨by rw[HY.o];rfl,(((Ey.o.trans HB.o.ext).store 0 (Nat.le_refl _) _).store 1 (Nat.le_refl _) _)⟩
 ·have HN:=ae (show vg A B=none by unfold vg;rw[HL.o,Ll.o,if_neg hne]);have LH:((n:Int) != (W:Int))=true:=by simp;omega
  have hr:=ah wi.o;obtain⟨xA,xm,CT⟩:=hr;go_enter Tryz.func176,Tryz.ntmps176
  go_wp2_with fail;refine bodyPost_ret (v:=.tuple #[.agg #[.int .i64 0,.int .i64 0],.bool false]) (by simp[results,Tryz.results176,go_sem,xA,xm]) rfl ⟨by rw[HN.o];rfl,uV.o⟩
theorem eA{v:Value}{a b:Bool}(h:a=b):Ending.returned (.tuple #[v,.bool a])=.returned (.tuple #[v,.bool b]):=by rw[h]
theorem pO{cap:Nat}(h:Ints w a n cap l)(hbig:n<=1048576):
 Calls Tryz.prog 221 #[.slice a n cap] w fun e w'=>(∃v,e=.returned (.tuple #[v,.bool (Ba l)])/\l9 w' w.heap.size v (dQ l))/\Ext w w':=by
 have l8:=h.l8;have o0:=h.o0;have HL:=ae h.hlen;have HI:=ae h;have HO:=ae (l9.made w w.heap.size (Nat.le_refl _));clear h;go_enter Tryz.func221,Tryz.ntmps221
 go_wp2_with fail
 go_loopg [4,5] n (fun gk oo ii wr=>∃(k:Nat) (a1:j6) (E c1:Nat),b7 (gk+k=n)/\ii=.int .i64 (k:Int)/\oo=.slice a1 E c1/\b7 ((l.take k).all (fun c=>r' c (-1000000000) 1000000000)=true)/\b7 (l9 wr w.heap.size (.slice a1 E c1) (ar (l.take k)))/\b7 (Ext w wr))
 case atStart=>exact⟨0,_,_,_,ae e7,rfl,rfl,ae rfl,HO,ae (Ext.alloc _ _)⟩
 case round =>
  obtain⟨g1,O⟩:=b9 gk;subst O;obtain⟨K,Q⟩:=b9 wr;subst Q;obtain⟨k,a1,E,c1,G,rfl,rfl,HA,vw,HX⟩:=hrel;have hsz:=HX.o.size;by_cases hlt:k<n
  ·obtain⟨b,off,rfl,wK⟩:=(HI.o.ext HX.o).at hlt;obtain⟨x,hx⟩:=b9 (l[k]?.getD 0);rw[<-hx]at wK;have HC:=ae (bm x (-1000000000) 1000000000 K);cases hb:r' x (-1000000000) 1000000000
   all_goals
    rw[hb]at HC
   ·have HF:=ae (show Ba l=false from fW (d:=0) (by rw[HL.o];exact hlt) (by rw[<-hx];exact hb));have HR:=ae (show dQ l=[]by unfold dQ;rw[HF.o];rfl);clear hx hb;go_wp2_with (first|(go_at_call 45;refine HC.o.mono ?_;rintro e w2 ⟨rfl,rfl⟩))
    go_ret2
    exact⟨⟨_,eA HF.o.symm,by rw[HR.o];exact l9.made _ _ hsz⟩,HX.o.trans (Ext.alloc _ _)⟩
   ·have HT:=ae (show(l.take (k+1)).all (fun c=>r' c (-1000000000) 1000000000)=true by rw[jf (d:=0) (by rw[HL.o];exact hlt),HA.o,<-hx,hb];rfl);have xZ:=ae (show ar (l.take k)++[(x,1)]=ar (l.take (k+1))by rw[hx];exact kv (by rw[HL.o];exact hlt));have xg:=ae (show(ar (l.take k)).length=k by rw[et,List.length_take,HL.o];omega);clear hx hb;go_wp2_with (first|(go_at_call 45;refine HC.o.mono ?_;rintro e w2 ⟨rfl,rfl⟩));refine(cl x _).mono ?_;rintro e w3 ⟨rfl,hx⟩;have X3:=ae (HX.o.trans hx);have I:=ae (vw.o.ext hx);have Cs:=X3.o.size;clear hx
    go_wp2_with (first
     | (at_builtin;refine aI rfl _ _ rfl w.heap.size (.slice a1 E c1) _ rfl (I.o.ext (Ext.alloc _ _)) _ 1 _ [(x,1)] rfl (Rats.one' _ _ _ _ _ e8) (by rw[xg.o];omega) (by simp;omega) ?_;intro v5 w5 ho hg l7;have X5:=ae (ak (X3.o.trans (Ext.alloc _ _)) hg (fun j hj=>(I.o.lt j hj).1));obtain⟨a5,U,J,rfl,zj⟩:=ho.var;have vU:=ae ho;clear ho hg l7))
    go_roundg (g1-1)
    case measure=>have:=G.o;omega
    case rel=>exact⟨k+1,a5,U,J,ae (j1 G.o),by go_num,rfl,HT,ae (by rw[<-xZ.o];exact vU.o),X5⟩
  ·have HT:=ae (show l.take k=l from List.take_of_length_le (by rw[HL.o];have:=G.o;omega));have HF:=ae (show Ba l=true by have:=HA.o;rw[HT.o]at this;exact this);have HR:=ae (show dQ l=ar (l.take k)by unfold dQ;rw[HF.o,HT.o];rfl);go_wp2_with fail
   go_ret2
   exact⟨⟨_,eA HF.o.symm,by rw[HR.o];exact vw.o⟩,HX.o⟩
theorem jP{cap:Nat}(h:Ints w a n cap l)(hf:Ba l=true)(E:n<=1048576){U:j6}{O Q:Nat}{X:j4}(hX:Rats w U O Q X):
 Calls Tryz.prog 173 #[.slice a n cap,.slice U O Q] w fun e w'=>e=.returned (Bq (vS (vg (ar l) X)))/\Ext w w':=by
 have uS:=Ext.alloc w (.cells #[.int .i64 0,.int .i64 0] 62);have uV:=ae uS;have HI:=ae (pO (h.ext uS) E);have Av:=ae (hX.ext uS);have Z:=ae (show dQ l=ar l by unfold dQ;rw[hf];rfl);have wi:=ae (show(w.alloc (.cells #[.int .i64 0,.int .i64 0] 62)).heap[w.heap.size]?=some (.cells #[.int .i64 0,.int .i64 0] 62 (0,0))from aj _ _ _ rfl);rw[hf,Z.o]at HI;clear h hX uS hf;go_enter Tryz.func173,Tryz.ntmps173
 go_wp2_with fail;refine HI.o.mono ?_;rintro e w1 ⟨⟨v1,rfl,J⟩,hx⟩;obtain⟨a1,n1,c1,rfl,B3⟩:=J.var;have HD:=ae (kO J.uZ (Av.o.ext hx));have X1:=ae hx;obtain⟨dv,K⟩:=b9 (vg (ar l) X);rw[<-K]at HD;have W:=ae K;clear J hx K;have hsz:=X1.o.size;rw[World.size_alloc]at hsz;cases dv with
 | none =>
   rw[show vS none=((0,0),false)from rfl]at HD;go_wp2_with fail;refine HD.o.mono ?_;rintro e w2 ⟨rfl,hx⟩;have X2:=ae ((X1.o.trans hx).trans (Ext.alloc w2 (.cells #[.int .i64 0,.int .i64 0] 62)));have hr:=ah (X2.o.blk wi.o);obtain⟨xA,xm,CT⟩:=hr;clear hx;go_wp2_with fail;refine bodyPost_ret (v:=.tuple #[.agg #[.int .i64 0,.int .i64 0],.bool false]) (by simp[results,Tryz.results173,go_sem,xA,xm]) rfl ⟨by rw[<-W.o];rfl,(((uV.o.trans X2.o).store 0 (Nat.le_refl _) _).store 1 (Nat.le_refl _) _)⟩
 | some r =>
   obtain⟨I,G⟩:=r;rw[show vS (some (I,G))=((I,G),true)from rfl]at HD;go_wp2_with fail;refine HD.o.mono ?_;rintro e w2 ⟨rfl,hx⟩;have X2:=ae ((X1.o.trans hx).trans (Ext.alloc w2 (.cells #[.int .i64 I,.int .i64 G] 62)));have hr:=ah (X2.o.blk wi.o);obtain⟨xA,xm,CT⟩:=hr;clear hx;go_wp2_with fail;refine bodyPost_ret (v:=.tuple #[.agg #[.int .i64 I,.int .i64 G],.bool true]) (by simp[results,Tryz.results173,go_sem,xA,xm]) rfl ⟨by rw[<-W.o];rfl,(((uV.o.trans X2.o).store 0 (Nat.le_refl _) _).store 1 (Nat.le_refl _) _)⟩
theorem jC(m:Nat)(hm:m<=100000):
 Calls Tryz.prog 175 #[.int .i64 (m:Int)] w fun e w'=>(∃v,e=.returned v/\l9 w' w.heap.size v (List.replicate m (0,1)))/\Ext w w':=by
 have HO:=ae (l9.made w w.heap.size (Nat.le_refl _));go_enter Tryz.func175,Tryz.ntmps175
 go_wp2_with fail
 go_loopg [3,4] m (fun gk oo ii wr=>∃(k:Nat) (a1:j6) (E p1:Nat),b7 (gk+k=m)/\ii=.int .i64 (k:Int)/\oo=.slice a1 E p1/\b7 (l9 wr w.heap.size (.slice a1 E p1) (List.replicate k (0,1)))/\b7 (Ext w wr))
 case atStart=>exact⟨0,_,_,_,ae e7,rfl,rfl,HO,ae (Ext.alloc _ _)⟩
 case round =>
  obtain⟨g1,O⟩:=b9 gk;subst O;obtain⟨o8,Q⟩:=b9 wr;subst Q;obtain⟨k,a1,E,p1,G,rfl,rfl,vw,HX⟩:=hrel;by_cases hlt:k<m
  ·have xg:=ae (show(List.replicate k ((0:Int),(1:Int))).length=k by simp);go_wp2_with fail;refine(cl 0 _).mono ?_;rintro e w3 ⟨rfl,hx⟩;have X3:=ae (HX.o.trans hx);have I:=ae (vw.o.ext hx);have Cs:=X3.o.size;clear hx
   go_wp2_with (first
    | (at_builtin;refine aI rfl _ _ rfl w.heap.size (.slice a1 E p1) _ rfl (I.o.ext (Ext.alloc _ _)) _ 1 _ [(0,1)] rfl (Rats.one' _ _ _ _ _ e8) (by rw[xg.o];omega) (by simp;omega) ?_;intro v5 w5 ho hg l7;have X5:=ae (ak (X3.o.trans (Ext.alloc _ _)) hg (fun j hj=>(I.o.lt j hj).1));obtain⟨a5,U,K,rfl,zj⟩:=ho.var;have vU:=ae ho;clear ho hg l7))
   go_roundg (g1-1)
   case measure=>have:=G.o;omega
   case rel=>exact⟨k+1,a5,U,K,ae (j1 G.o),by go_num,rfl,ae (by have:=vU.o;rw[<-List.replicate_succ']at this;exact this),X5⟩
  ·have J:m=k:=by have:=G.o;omega
   subst J;go_wp2_with fail;go_ret;exact⟨⟨_,rfl,vw.o⟩,HX.o⟩
section
variable{w:World}{a:j6}{na ca:Nat}{b:j6}{nb cb:Nat}{c:j6}{nc cc:Nat}{A:j5}{B:j7}{C:j4}
theorem sX(h:Bf w a na ca b nb cb c nc cc A B C)(ok:vG A B C=true){j:Nat}(hj:j<nc):
 Calls Tryz.prog 222 #[Al a na ca b nb cb c nc cc,.int .i64 (j:Int)] w fun e w'=>(∃v,e=.returned v/\o5 w' w.heap.size v (vJ A j))/\Ext w w':=by
 obtain⟨r1,r2,r3,J,Z,U⟩:=co h ok;subst r3;have uS:=Ext.alloc w (aV a nb ca b nb cb c nc cc);have uV:=ae uS;have uW:=ae (show(w.alloc (aV a nb ca b nb cb c nc cc)).heap[w.heap.size]?=some (.cells #[.slice a nb ca,.slice b nb cb,.slice c nc cc] 68 (0,0))from aj _ _ _ rfl);obtain⟨W,hW⟩:=b9 (w.alloc (aV a nb ca b nb cb c nc cc));have H:=ae (h.ext uS);rw[<-hW]at uS uV uW H;have HI:=ae H.o.a;have Iu:=h.a.l8;have It:=h.a.o0;have xB:=h.c.l8;have zC:=h.c.o0;have HL:=ae h.a.hlen;have xg:=ae J;have B9:W.heap.size=w.heap.size+1:=by rw[hW];simp
 have HO:=ae (o5.wJ W (w.heap.size+1) _ rfl e7);have E:=ae (Ext.alloc W (.cells #[] 3));have HV:=ae (dO (H.o.ext E.o));rw[ok]at HV;have GU:=ae (fun w'=>bm (j:Int) 0 ((nc:Int)-1) w');rw[show r' (j:Int) 0 ((nc:Int)-1)=true by unfold r';simp;omega]at GU;have DG:IntKind.i64.wrap ((nc:Int)-1)=(nc:Int)-1:=by rw[IntKind.wrap_i64];omega
 clear h J Z U ok uS;go_enter Tryz.func222,Tryz.ntmps222
 go_upto_region 1 with fail;rw[<-hW];clear hW;have p0:=al (E.o.blk uW.o);have p1:=au (E.o.blk uW.o);have p2:=av (E.o.blk uW.o);rw[B9]at HO;go_wp2_with fail;refine HV.o.mono ?_;rintro e w1 ⟨rfl,hx⟩;have X1:=ae (E.o.trans hx);have Rc:=ae (HO.o.ext hx);clear hx p0 p1 p2;have p2:=av (X1.o.blk uW.o);go_wp2_with (first|(go_at_call 45;refine(GU.o _).mono ?_;rintro e w2 ⟨rfl,rfl⟩))
 go_loopg [5,6] nb (fun gk o ii wr=>∃(k:Nat) (a1:j6) (G p1:Nat),b7 (gk+k=nb)/\ii=.int .i64 (k:Int)/\o=.slice a1 G p1/\b7 (o5 wr (w.heap.size+1) (.slice a1 G p1) (vJ (A.take k) j))/\b7 (Ext W wr))
 case atStart=>exact⟨0,_,_,_,ae e7,rfl,rfl,ae (by simpa[vJ]using Rc.o),X1⟩
 case round =>
  obtain⟨g1,o6⟩:=b9 gk;subst o6;obtain⟨o8,o4⟩:=b9 wr;subst o4;obtain⟨k,a1,G,p1,I,rfl,rfl,vw,vh⟩:=hrel;clear p2;have p0:=al (vh.o.blk uW.o);have hsz:=vh.o.size;by_cases hlt:k<nb
  ·obtain⟨gb,D4,ra,rn,rc,rfl,Nc,o7⟩:=(HI.o.ext vh.o).at hlt;have K:rn=nc:=by rw[<-o7.hlen];exact xg.o k hlt
   subst K;obtain⟨eb,vd,rfl,OI⟩:=o7.at hj;obtain⟨x,hx⟩:=b9 ((A[k]?.getD [])[j]?.getD 0);rw[<-hx]at OI;have HS:=ae (show vJ (A.take k) j++[x]=vJ (A.take (k+1)) j by rw[hx];exact mS (by rw[HL.o];exact hlt));have DQ:=ae (show(vJ (A.take k) j).length=k by simp[vJ];have:=HL.o;omega);have J1:=o7.l8;have S4:=o7.o0;clear o7 hx
   go_wp2_with (first
    | (at_builtin;refine bv rfl _ _ rfl (w.heap.size+1) (.slice a1 G p1) _ rfl (vw.o.ext (Ext.alloc _ _)) _ 1 _ [x] rfl (Ints.zp _ _ _ _ e8) (by rw[DQ.o];omega) (by simp;omega) ?_;intro v2 w3 ho hg l7;have X5:=ae (ak (vh.o.trans (Ext.alloc _ _)) hg (fun i hi=>by have:=(vw.o.lt i hi).1;omega));obtain⟨a2,n2,c2,rfl,ED⟩:=ho.var;have O:=ae ho;clear ho hg l7))
   go_roundg (g1-1)
   case measure=>have:=I.o;omega
   case rel=>exact⟨k+1,a2,n2,c2,ae (j1 I.o),by go_num,rfl,ae (by rw[<-HS.o];exact O.o),X5⟩
  ·have Q:nb=k:=by have:=I.o;omega
   subst Q;have HT:=ae (show A.take nb=A from List.take_of_length_le (by rw[HL.o];exact Nat.le_refl _));rw[HT.o]at vw;go_wp2_with fail;go_ret;exact⟨⟨_,rfl,vw.o.mono e7⟩,uV.o.trans vh.o⟩
theorem iq{w:World}{a:j6}{n cap:Nat}{l:j4}(h:Rats w a n cap l):
 Calls Tryz.prog 178 #[.slice a n cap] w fun e w'=>e=.returned (.bool (Ax l))/\Ext w w':=by
 have l8:=h.l8;have o0:=h.o0;have HL:=ae h.hlen;have HI:=ae h;clear h;go_enter Tryz.func178,Tryz.ntmps178
 go_wp2_with fail
 go_loopg [3] n (fun gk ii wr=>∃k:Nat,b7 (gk+k=n)/\ii=.int .i64 (k:Int)/\b7 ((l.take k).all (fun r=>o9 r&&decide (0<=r.1))=true)/\b7 (Ext w wr))
 case atStart=>exact⟨0,ae e7,rfl,ae rfl,ae (Ext.refl _)⟩
 case round =>
  obtain⟨g1,K⟩:=b9 gk;subst K;obtain⟨J,O⟩:=b9 wr;subst O;obtain⟨k,I,rfl,HA,HX⟩:=hrel;by_cases hlt:k<n
  ·obtain⟨b,off,x,y,rfl,E,wK,xB⟩:=(HI.o.ext HX.o).at hlt;have HC:=ae (aw x y J);have G:=ae (show k<l.length by rw[HL.o];exact hlt);cases hb:o9 (x,y)
   all_goals
    rw[hb]at HC
   ·have HF:=ae (show Ax l=false from fW (d:=(0,0)) G.o (by rw[E,hb];rfl));clear E hb;go_wp2_with fail;refine HC.o.mono ?_;rintro e w2 ⟨rfl,vL⟩;go_wp2_with fail;go_ret;exact⟨ai HF.o.symm,HX.o.trans vL⟩
   ·by_cases uS:x<0
    ·have HF:=ae (show Ax l=false from fW (d:=(0,0)) G.o (by rw[E,hb];simp;omega));clear E hb;go_wp2_with fail;refine HC.o.mono ?_;rintro e w2 ⟨rfl,vL⟩;have Q:=vL.j9 wK;have k1:=vL.j9 xB;go_wp2_with fail;go_ret;exact⟨ai HF.o.symm,HX.o.trans vL⟩
    ·have HT:=ae (show(l.take (k+1)).all (fun r=>o9 r&&decide (0<=r.1))=true by rw[jf (d:=(0,0)) G.o,HA.o,E,hb];simp;omega);clear E hb;go_wp2_with fail;refine HC.o.mono ?_;rintro e w2 ⟨rfl,vL⟩;have Q:=vL.j9 wK;have k1:=vL.j9 xB;go_wp2_with fail
     go_roundg (g1-1)
     case measure=>have:=I.o;omega
     case rel=>exact⟨k+1,ae (j1 I.o),by go_num,HT,ae (HX.o.trans vL)⟩
  ·have HT:=ae (show l.take k=l from List.take_of_length_le (by rw[HL.o];have:=I.o;omega));go_wp2_with fail;go_ret;exact⟨ai (by have:=HA.o;rw[HT.o]at this;exact this.symm),HX.o⟩
end
end Go.Proofs.YtdadoignenffgaaGreatDoor
