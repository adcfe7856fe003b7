import Derived.Test.YtdadoignenffgaaGreatDoorSvAllG10
import Derived.Test.YtdadoignenffgaaGreatDoorSvAllG5
import Derived.Deep.Cut
import Derived.Deep.DeepCutAuto
set_option linter.unusedVariables false
set_option linter.unusedSimpArgs false
namespace Go.Proofs.YtdadoignenffgaaGreatDoor
set_option maxHeartbeats 16000000
set_option maxRecDepth 100000
open Go.RowKit
def ld(w w':World)(e:Ending)(r:(Nat×j7)×Int):Prop:=∃a m cap,e=.returned (.tuple #[pair (r.1.1:Int) a m cap,.int .i64 r.2])/\o5 w' w.heap.size (.slice a m cap) r.1.2
theorem qi{l:List UInt8}{t:ByteArray}(h:t=bs l):t.toList.isEmpty=decide (l=[]):=by
 rw[h,bL,Bool.eq_iff_iff,List.isEmpty_iff,decide_eq_true_eq]
theorem qT{w:World}(t:List UInt8)(ht:t.length<=1048576):Calls Tryz.prog 15 #[.string (bs t)] w fun e w'=>ld w w' e (cJ t)/\Ext w w':=by
 obtain⟨W,hW⟩:=b9 (w.alloc (.cells #[.int .i64 0,.slice none 0 0] 32));have XW:=ae (show Ext w W by rw[hW];exact Ext.alloc _ _);have wT:=ae (show W.heap.size=w.heap.size+1 by rw[hW];simp);have HR:=ae (show W.heap[w.heap.size]?=some (.cells #[.int .i64 0,.slice none 0 0] 32 (0,0))by rw[hW];exact aj _ _ _ rfl);have D':=ae (it (w:=W) t 10 e7);have Z:=ae (is t);have xg:=ae (fun x (h:x∈dg t)=>nu h);obtain⟨L,hL⟩:∃L,vV 10 t=L:=⟨_,rfl⟩;have yw:=ae (fun u x=>nt hL (u:=u) (x:=x));have B5:=ae (show 1<=L.length/\L.length<=1048577 by rw[<-hL];exact⟨kW _ _,by have:=jE 10 t;omega⟩);rw[hL]at D';obtain⟨P,hP⟩:=b9 (cJ t);rw[<-hP]at Z;rw[<-hP];obtain⟨J,Qy⟩:=b9 (dg t);rw[<-Qy]at Z xg;simp only[<-Qy]at yw;obtain⟨tt,B8⟩:=b9 (bs t);have GO:=ae B8;rw[<-B8]at D';rw[<-B8];have Gf:=ae ht;have HFIN0:b7 (∀w':World,P=((0,[]),0)->∀h:Ext w w',ld w w' (.returned (.tuple #[pair 0 none 0 0,.int .i64 0])) P):=ae (fun w' h _=>by rw[h];exact⟨none,0,0,rfl,o5.nil _ _⟩);have AJ:b7 (∀(w':World) (k:Int),P=((0,[]),k)->ld w w' (.returned (.tuple #[pair 0 none 0 0,.int .i64 k])) P):=ae (fun w' k h=>by rw[h];exact⟨none,0,0,rfl,o5.nil _ _⟩);clear hP Qy B8 ht hL;go_enter Tryz.func15,Tryz.ntmps15
 go_upto_region 1 with fail;rw[<-hW];clear hW;go_wp2_with fail;refine D'.o.mono ?_;rintro e w1 ⟨v,rfl,Q,hx⟩;obtain⟨a1,n1,c1,rfl,B3⟩:=Q.var;obtain⟨u,rfl⟩:∃u,n1=u+1:=⟨n1-1,by have:=B3.o;have:=B5.o;omega⟩;have AI:=ae Q.A2;have X1:=ae hx;have Ko:=AI.o.l8;have J':=AI.o.o0;have RB:u<=1048576:=by have:=B3.o;have:=B5.o;omega
 have yK:=ae (XW.o.trans hx);have Bg:=ae (hx.blk HR.o);obtain⟨O,lo,xl,rfl,Qx,LK⟩:=AI.o.at (k:=u) e7;have E0:w1.cell? ⟨O,lo+u,none⟩=some (.string (bs xl)):=dD AI.o Qx;have Lt:=ae (yw.o u xl B3.o Qx);have DH:((u+1:Nat):Int)-1=(u:Int):=by omega
 obtain⟨tl,PJ⟩:=b9 (bs xl);have Zt:=ae (qi PJ);rw[<-PJ]at E0;clear Q hx LK Qx PJ
 go_upto_if 20 with fail
 rw[Zt.o];obtain⟨bE,Qo⟩:=b9 (decide (xl=[]));rw[<-Qo];have EI:=ae Qo;clear Qo
 go_cut [4] (fun s4 wx=>∃(m:Nat),s4=.slice (some ⟨O,lo,none⟩) m c1/\b7 (yM vI w1 (some ⟨O,lo,none⟩) m c1 J)/\b7 (m<=u+1)/\b7 (w1=wx))
 case first =>
  cases bE with
  | true =>
    have HM:=ae (show yM vI w1 (some ⟨O,lo,none⟩) u c1 J by rw[Lt.o,if_pos (of_decide_eq_true EI.o.symm)];exact AI.o.take e7);go_wp2_with fail;go_meet;exact⟨u,rfl,HM,ae e7,ae rfl⟩
  | false =>
    have HM:=ae (show yM vI w1 (some ⟨O,lo,none⟩) (u+1) c1 J by rw[Lt.o,if_neg (of_decide_eq_false EI.o.symm)];exact AI.o);go_wp2_with fail;go_meet;exact⟨u+1,rfl,HM,ae e7,ae rfl⟩
 obtain⟨m,rfl,HS,US,O0⟩:=hcut;obtain rfl:=O0.o;have hmu:=US.o;have OK:=HS.o.l8;have Rg:=ae HS.o.hlen;clear O0 E0 US DH;obtain⟨r0,r1⟩:=And.intro (bw Bg.o) (bp Bg.o);have f0:=frozen_of_row w1 _ 0 _ _ Bg.o;have f1:=frozen_of_row w1 _ 1 _ _ Bg.o;by_cases Cu:m=0
 ·subst Cu;have HE:=ae (Z.o.trans (ko (List.eq_nil_of_length_eq_zero Rg.o)));go_wp2_with fail;refine bodyPost_ret (v:=.tuple #[pair 0 none 0 0,.int .i64 0]) (by simp[results,Tryz.results15,go_sem,pair,r0,r1]) rfl ⟨AJ.o _ _ HE.o,(yK.o.store 0 (Nat.le_refl _) _).store 1 (Nat.le_refl _) _⟩
 ·have Ct:((m:Int) == 0)=false:=by simp;omega
  have GC:(0:Int)<(m:Int):=by omega
  obtain⟨lb',lo',x0,e',GH,_⟩:=HS.o.at (k:=0) e7;simp only[Option.some.injEq,Addr.mk.injEq,and_true]at e';obtain⟨rfl,rfl⟩:=e';have q0:=dD HS.o GH;rw[Nat.add_zero]at q0;have FG:=ae GH;have HF:=ae (uJ (w:=w1) x0 (by have:=xg.o x0 (List.mem_of_getElem? GH);have:=Gf.o;omega));obtain⟨F,hF⟩:=b9 (cQ x0);have L7:=ae hF;have Ek:=ae (show∀n,F=some n->1<=n/\n<=5 by rw[hF];exact fun n h=>jn h);rw[<-hF]at HF;clear hF GH;go_wp2_with fail;refine HF.o.mono ?_;rintro e w2 ⟨⟨I,E,G,rfl,Q⟩,hx⟩;have X2:=ae hx;have wG:=ae Q;have Ai:=ae (hx.blk Bg.o);have Ui:=ae (yK.o.trans hx);have Q0:=ae (show E=lA F by have:=Q.ints.hlen;rw[List.length_replicate]at this;exact this.symm);clear Q hx r0 r1 f0 f1 q0;have A4:=Ui.o.size;cases F with
  | none =>
    have HE:=ae (Z.o.trans (lQ FG.o L7.o.symm));obtain⟨U,K⟩:=b9 (w2.alloc (.cells #[.int .i64 0,.slice I E G] 32));have X3:=ae (show Ext w2 U by rw[K];exact Ext.alloc _ _);have Eb:=ae (X3.o.blk Ai.o);go_upto_region 7 with fail;rw[<-K];clear K;have g0:=bw Eb.o;have g1:=bp Eb.o;have T3:=frozen_of_row U _ 0 _ _ Eb.o;have TZ:=frozen_of_row U _ 1 _ _ Eb.o;go_wp2_with fail;refine bodyPost_ret (v:=.tuple #[pair 0 none 0 0,.int .i64 0]) (by simp[results,Tryz.results15,go_sem,pair,g0,g1]) rfl ⟨AJ.o _ _ HE.o,((Ui.o.trans X3.o).store 0 (Nat.le_refl _) _).store 1 (Nat.le_refl _) _⟩
  | some n0 =>
    obtain⟨zv,OB⟩:=Ek.o n0 rfl;obtain⟨q,rfl⟩:∃q:Nat,n0=q:=⟨n0.toNat,by omega⟩;have QZ:=ae (show E=2^q by rw[Q0.o];rfl);have Zn:=ae (show 1<=E/\E<=32 by rw[Q0.o];exact cW q e7);obtain⟨U,K⟩:=b9 (w2.alloc (.cells #[.int .i64 (q:Int),.slice I E G] 32));have X3:=ae (show Ext w2 U by rw[K];exact Ext.alloc _ _);have H':=ae (show U.heap[w2.heap.size]?=some (.cells #[.int .i64 (q:Int),.slice I E G] 32 (0,0))by rw[K];exact aj _ _ _ rfl);have vi:=ae (show o5 U w1.heap.size (.slice I E G) (List.replicate E 0)by have:=wG.o.ext X3.o;rw[<-Q0.o]at this;exact this);have Er:=vi.o.ints.l8;have hvx:=vi.o.ints.o0;have Ue:=ae (show w1.heap.size<=w2.heap.size from X2.o.size);have Hp:=ae (show w.heap.size<w1.heap.size from lt_of_block Bg.o);obtain⟨g,hg⟩:=b9 w2.heap.size;have HGG:=ae hg;rw[<-hg]at H' Ue;go_upto_region 7 with fail;rw[<-K,<-hg];clear K hg;go_wp2_with fail
    go_loopg [7,8] (m-1) (fun gk aa kk wr=>∃(k:Nat) (last:Int) (V:j7),b7 (gk+k=m)/\aa=.int .i64 last/\kk=.int .i64 (k:Int)/\b7 (1<=k)/\b7 (bP (2^q) (J.drop 1) (k-1)=.ok (V,last))/\b7 (o5 wr w1.heap.size (.slice I E G) V)/\b7 (wr.heap[g]?=some (.cells #[.int .i64 (q:Int),.slice I E G] 32 (0,0)))/\b7 (Ext w1 wr))
    case atStart =>
     exact⟨1,0,List.replicate E 0,ae e7,rfl,rfl,ae (Nat.le_refl _),ae (by rw[QZ.o];rfl),vi,H',ae (X2.o.trans X3.o)⟩
    case round =>
     obtain⟨g1,o6⟩:=b9 gk;subst o6;obtain⟨wr,wR⟩:=b9 wr;subst wR;obtain⟨k,last,V,HK,rfl,rfl,U4,IC,HO,HG,HX⟩:=hrel;have BU:(0:Int)<=(k:Int):=by omega
     have b0:=bw HG.o;have b1:=bp HG.o;by_cases hlt:k<m
     ·have Aq:(k:Int)<(m:Int):=by omega
      obtain⟨j,hj⟩:∃j,k=j+1:=⟨k-1,by have:=U4.o;omega⟩;have HJ:=ae hj;have Fo:=ae (show bP (2^q) (J.drop 1) j=.ok (V,last)by have:=IC.o;rwa [show k-1=j by omega]at this);obtain⟨lb',lo',x,e',GG,_⟩:=HS.o.at (k:=k) hlt;simp only[Option.some.injEq,Addr.mk.injEq,and_true]at e';obtain⟨rfl,rfl⟩:=e';have DJ:=dD (HS.o.ext HX.o) GG;have DQ:=ae (show(J.drop 1)[j]?=some x by rw[List.getElem?_drop,show 1+j=k by omega];exact GG);have ZY:=ae (fun(w':World)=>I3 (w:=w') (p:=(q:Int)) (a:=I) (n:=E) (cap:=G) last x (by have:=xg.o x (List.mem_of_getElem? GG);have:=Gf.o;omega));have GY:=ae (fun sv (h:dZ E last x=some sv)=>kI h);obtain⟨R,hR⟩:=b9 (dZ E last x);have zE:=ae hR;simp only[<-hR]at ZY GY;obtain⟨tx,BG⟩:=b9 (bs x);rw[<-BG]at DJ;simp only[<-BG]at ZY;clear GG hj hR BG;have k7:Ext wr wr.drew:=Ext.drew wr;have vt:=k7;have k8:=ae (fun(w':World) (h:Ext wr w')=>(⟨h.j9 b0,h.j9 b1,h.j9 DJ,h⟩:w'.cell? ⟨g,0,none⟩=some (.int .i64 (q:Int))/\w'.cell? ⟨g,1,none⟩=some (.slice I E G)/\w'.cell? ⟨O,lo+k,none⟩=some (.string tx)/\Ext wr w'));go_wp2_with fail
      go_region_held3 (fun w'=>w'.cell? ⟨g,0,none⟩=some (.int .i64 (q:Int))/\w'.cell? ⟨g,1,none⟩=some (.slice I E G)/\w'.cell? ⟨O,lo+k,none⟩=some (.string tx)/\Ext wr w')
       (with_reducible exact k8.o _ k7)
       (first
         | (go_at_call 38
            (with_reducible refine(ZY.o _).mono ?_)
            rintro e w3 ⟨⟨y1,y2,rfl,AW⟩,r9⟩;have k7:Ext wr w3:=k7.trans r9
            have Cr:=k7.size)
         | fail)
      clear k8 vt;have xE:=ae AW;have vk:=ae (HX.o.trans k7);have Ln:=ae (k7.blk HG.o);have Hy:=ae (HO.o.ext k7);clear b0 b1 DJ k7 AW;cases R with
      | none =>
        have HE:=ae (show P=((0,[]),(k:Int))from Z.o.trans (nL FG.o L7.o.symm (k:=k) (by rw[Rg.o];omega) (by
         have:=ns Fo.o DQ.o (by rw[<-QZ.o];exact zE.o.symm)
         rw[<-HJ.o]at this;exact this)))
        have Eb:=ae (vk.o.blk Bg.o);have g0:=bw Eb.o;have g1:=bp Eb.o;have T3:=frozen_of_row w3 _ 0 _ _ Eb.o;have TZ:=frozen_of_row w3 _ 1 _ _ Eb.o;go_wp2_with fail;refine bodyPost_ret (v:=.tuple #[pair 0 none 0 0,.int .i64 (k:Int)]) (by simp[results,Tryz.results15,go_sem,pair,g0,g1]) rfl ⟨AJ.o _ _ HE.o,((yK.o.trans vk.o).store 0 (Nat.le_refl _) _).store 1 (Nat.le_refl _) _⟩
      | some sv =>
        obtain⟨s,v⟩:=sv;obtain⟨rfl,rfl⟩:=xE.o _ rfl;obtain⟨s1,s2,s3,s4⟩:=GY.o _ rfl;simp only at s1 s2 s3 s4;have AO:(0:Int)<=(s:Int):=by omega
        have MW:(s:Int)<(E:Int):=by omega
        have HN:=ae (show bP (2^q) (J.drop 1) (j+1)=.ok (V.set s y2,(s:Int))from lM Fo.o DQ.o (by rw[<-QZ.o];exact zE.o.symm));obtain⟨gb,xK,Fa,Kd,Ev⟩:=Hy.o.block (show s<E by omega);have hne:=an Hy.o Ln.o (by decide);subst xK;have Ra:=ae (Hy.o.set s y2);have H9:=ae (show(w3.setCell ⟨gb,s,none⟩ (.int .i64 y2)).heap[g]?=_ from(heap_setCell_other w3 ⟨gb,s,none⟩ g _ (fun e=>hne (by rw[show g=gb from e];rfl))).trans Ln.o);have Zl:=ae (vk.o.store s Fa (.int .i64 y2));have DN:=Kd s;have b1:=bp Ln.o;obtain⟨gb',go',e',hcs⟩:=Hy.o.ints.at (show s<E by omega);simp only[Option.some.injEq,Addr.mk.injEq,and_true]at e';obtain⟨rfl,rfl⟩:=e';rw[Nat.zero_add]at hcs;clear hne Kd Ev s1 s2 s3 s4;go_wp2_with fail
        go_roundg (g1-1)
        case measure=>have:=HK.o;omega
        case rel=>exact⟨k+1,(s:Int),V.set s y2,ae (j1 HK.o),rfl,by go_num,ae e7,ae (by rw[Nat.add_sub_cancel,HJ.o];exact HN.o),Ra,H9,Zl⟩
     ·have yV:k=m:=by have:=HK.o;omega
      have Fo:=ae (show bP (2^q) (J.drop 1) (J.length-1)=.ok (V,last)by rw[Rg.o,<-yV];exact IC.o);have Lc:=ae (Z.o.trans (nK FG.o L7.o.symm Fo.o));have B0:=ae (jw Fo.o);have Vb:=ae (pL (p:=q) HO.o.ints (fun k=>by have:=B0.o.2.2.1 k;omega))
      have LR:=ae (show((bs (dq q V)).toList == tt.toList)=decide (dq q V=t)by
       rw[GO.o,bL,bL,Bool.eq_iff_iff,beq_iff_eq,decide_eq_true_eq])
      obtain⟨tg,SO⟩:=b9 (bs (dq q V));rw[<-SO]at Vb LR;have Aq:¬(k:Int)<(m:Int):=by omega
      clear yV SO;go_wp2_with fail;refine Vb.o.mono ?_;rintro e w4 ⟨rfl,hx⟩;have xO:=ae (HX.o.trans hx);have GW:=ae (hx.blk HG.o);have wV:=ae (HO.o.ext hx);have zS:=ae (xO.o.blk Bg.o);have g0:=bw zS.o;have g1:=bp zS.o;have T3:=frozen_of_row w4 _ 0 _ _ zS.o;have TZ:=frozen_of_row w4 _ 1 _ _ zS.o;clear hx b0 b1;have b0:=bw GW.o;have b1:=bp GW.o;by_cases AX:dq q V=t
      ·have JV:(tg.toList == tt.toList)=true:=by rw[LR.o,decide_eq_true AX]
       have HE:=ae (show P=((q,V),-1)by rw[Lc.o];exact if_pos AX);clear AX;go_wp2_with fail;refine bodyPost_ret (v:=.tuple #[pair (q:Int) I E G,.int .i64 (-1)]) (by simp[results,Tryz.results15,go_sem,pair,g0,g1]) rfl ⟨⟨I,E,G,by rw[HE.o],?_⟩,((yK.o.trans xO.o).store 0 (Nat.le_refl _) _).store 1 (Nat.le_refl _) _⟩;rw[HE.o];refine(wV.o.mono (Nat.le_of_lt Hp.o)).keep fun j hj=>?_
       have h1:=(wV.o.lt j hj).1;have h2:=Hp.o;rw[heap_setCell_other _ _ _ _ (by simp;omega),heap_setCell_other _ _ _ _ (by simp;omega)]
      ·have JV:(tg.toList == tt.toList)=false:=by rw[LR.o,decide_eq_false AX]
       have HE:=ae (show P=((0,[]),(m:Int))by rw[Lc.o,<-Rg.o];exact if_neg AX);clear AX;go_wp2_with fail;refine bodyPost_ret (v:=.tuple #[pair 0 none 0 0,.int .i64 (m:Int)]) (by simp[results,Tryz.results15,go_sem,pair,g0,g1]) rfl ⟨AJ.o _ _ HE.o,((yK.o.trans xO.o).store 0 (Nat.le_refl _) _).store 1 (Nat.le_refl _) _⟩
end Go.Proofs.YtdadoignenffgaaGreatDoor
