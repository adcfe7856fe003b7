import Derived.Test.YtdadoignenffgaaGreatDoorSvAllG50
import Derived.Test.YtdadoignenffgaaGreatDoorSvAllG11
import Derived.Test.YtdadoignenffgaaGreatDoorSvAllG3
import Derived.Test.YtdadoignenffgaaGreatDoorSvAllG5
set_option linter.unusedVariables false
set_option linter.unusedSimpArgs false
namespace Go.Proofs.YtdadoignenffgaaGreatDoor
set_option maxHeartbeats 16000000
set_option maxRecDepth 100000
open Go.RowKit
theorem yM.bare{α:Type}{E:Enc α}{l:List α}(h:l.length=0)(w:World)(a:j6)(n:Nat):yM E w a 0 0 l :=
 ⟨h,Nat.le_refl _,by omega,fun k hk=>absurd hk e7⟩
theorem qL {w : World} (t : List UInt8) (ht : t.length <= 1048576) (htab : Lib.TabIs Tryz.prog w "internal/strconv.uint64pow10" .u64 Lib.pow10Tab) : Calls Tryz.prog 22 #[.string (bs t)] w fun e w' => ld w w' e (cJ t) /\ Ext w w' := by
 obtain⟨W,hW⟩:=b9 (w.alloc (.cells #[.int .i64 0,.slice none 0 0] 32));have XW:=ae (show Ext w W by rw[hW];exact Ext.alloc _ _);have uW:=ae htab;have wT:=ae (show W.heap.size=w.heap.size+1 by rw[hW];simp);have HR:=ae (show W.heap[w.heap.size]?=some (.cells #[.int .i64 0,.slice none 0 0] 32 (0,0))by rw[hW];exact aj _ _ _ rfl);have D':=ae (kh (w:=W) t 10 e7);have Hv:=ae (is t);have xg:=ae (fun x (h:x∈dg t)=>nu h);obtain⟨L,hL⟩:∃L,vV 10 t=L:=⟨_,rfl⟩;have yw:=ae (fun u x=>nt hL (u:=u) (x:=x));have B5:=ae (show 1<=L.length/\L.length<=1048577 by rw[<-hL];exact⟨kW _ _,by have:=jE 10 t;omega⟩);rw[hL]at D';obtain⟨P,hP⟩:=b9 (cJ t);rw[<-hP]at Hv;rw[<-hP];obtain⟨Ls,Qy⟩:=b9 (dg t);rw[<-Qy]at Hv xg;simp only[<-Qy]at yw;obtain⟨tt,B8⟩:=b9 (bs t);have GO:=ae B8;rw[<-B8]at D';rw[<-B8];have Gf:=ae ht;have AJ:b7 (∀(w':World) (k:Int),P=((0,[]),k)->ld w w' (.returned (.tuple #[pair 0 none 0 0,.int .i64 k])) P):=ae (fun w' k h=>by rw[h];exact⟨none,0,0,rfl,o5.nil _ _⟩);clear hP Qy B8 ht hL htab;go_enter Tryz.func22,Tryz.ntmps22
 go_upto_region 1 with fail;rw[<-hW];clear hW;go_wp2_with fail;refine D'.o.mono ?_;rintro e w1 ⟨v,rfl,ho,hx⟩;obtain⟨a1,n1,c1,rfl,B3⟩:=ho.var;obtain⟨u,rfl⟩:∃u,n1=u+1:=⟨n1-1,by have:=B3.o;have:=B5.o;omega⟩;have AI:=ae ho.A2;have X1:=ae hx;have Ko:=AI.o.l8;have J':=AI.o.o0;have RB:u<=1048576:=by have:=B3.o;have:=B5.o;omega
 have yK:=ae (XW.o.trans hx);have Bg:=ae (hx.blk HR.o);obtain⟨lb,lo,xl,rfl,Qx,LK⟩:=AI.o.at (k:=u) e7;have E0:w1.cell? ⟨lb,lo+u,none⟩=some (.string (bs xl)):=dD AI.o Qx;have Lt:=ae (yw.o u xl B3.o Qx);have DH:((u+1:Nat):Int)-1=(u:Int):=by omega
 obtain⟨tl,PJ⟩:=b9 (bs xl);have Zt:=ae (qi PJ);rw[<-PJ]at E0;clear ho hx LK Qx PJ
 go_upto_if 24 with fail
 rw[Zt.o];obtain⟨bE,Qo⟩:=b9 (decide (xl=[]));rw[<-Qo];have EI:=ae Qo;clear Qo
 go_cut [4] (fun s4 wx=>∃(m:Nat),s4=.slice (some ⟨lb,lo,none⟩) m c1/\b7 (yM vI w1 (some ⟨lb,lo,none⟩) m c1 Ls)/\b7 (m<=u+1)/\b7 (w1=wx))
 case first =>
  cases bE with
  | true =>
    have HM:=ae (show yM vI w1 (some ⟨lb,lo,none⟩) u c1 Ls by rw[Lt.o,if_pos (of_decide_eq_true EI.o.symm)];exact AI.o.take e7);go_wp2_with fail;go_meet;exact⟨u,rfl,HM,ae e7,ae rfl⟩
  | false =>
    have HM:=ae (show yM vI w1 (some ⟨lb,lo,none⟩) (u+1) c1 Ls by rw[Lt.o,if_neg (of_decide_eq_false EI.o.symm)];exact AI.o);go_wp2_with fail;go_meet;exact⟨u+1,rfl,HM,ae e7,ae rfl⟩
 obtain⟨m,rfl,HS,US,O0⟩:=hcut;obtain rfl:=O0.o;have hmu:=US.o;have OK:=HS.o.l8;have Rg:=ae HS.o.hlen;clear O0 E0 US DH;obtain⟨r0,r1⟩:=And.intro (bw Bg.o) (bp Bg.o);have f0:=frozen_of_row w1 _ 0 _ _ Bg.o;have f1:=frozen_of_row w1 _ 1 _ _ Bg.o;by_cases Cu:m=0
 ·subst Cu;have HE:=ae (Hv.o.trans (ko (List.eq_nil_of_length_eq_zero Rg.o)));go_wp2_with fail;refine bodyPost_ret (v:=.tuple #[pair 0 none 0 0,.int .i64 0]) (by simp[results,Tryz.results22,go_sem,pair,r0,r1]) rfl ⟨AJ.o _ _ HE.o,(yK.o.store 0 (Nat.le_refl _) _).store 1 (Nat.le_refl _) _⟩
 ·obtain⟨m',rfl⟩:∃m',m=m'+1:=⟨m-1,by omega⟩;obtain⟨c',rfl⟩:∃c',c1=c'+1:=⟨c1-1,by omega⟩;have Ct:(((m'+1:Nat):Int) == 0)=false:=by simp;omega
  have GC:(0:Int)<((m'+1:Nat):Int):=by omega
  obtain⟨lb',lo',x0,e',GH,_⟩:=HS.o.at (k:=0) e7;simp only[Option.some.injEq,Addr.mk.injEq,and_true]at e';obtain⟨rfl,rfl⟩:=e';have q0:=dD HS.o GH;rw[Nat.add_zero]at q0;have FG:=ae GH;have HF:=ae (ox (w:=w1) x0);obtain⟨F,hF⟩:=b9 (cQ x0);have L7:=ae hF;have Ek:=ae (show∀n,F=some n->1<=n/\n<=5 by rw[hF];exact fun n h=>jn h);rw[<-hF]at HF;clear hF GH;go_wp2_with fail;refine HF.o.mono ?_;rintro e w2 ⟨⟨n0,rfl,F1⟩,Gx⟩;obtain rfl:=Gx.symm;clear Gx;cases F with
  | none =>
    have HE:=ae (Hv.o.trans (lQ FG.o L7.o.symm));clear F1;go_wp2_with fail;refine bodyPost_ret (v:=.tuple #[pair 0 none 0 0,.int .i64 0]) (by simp[results,Tryz.results22,go_sem,pair,r0,r1]) rfl ⟨AJ.o _ _ HE.o,(yK.o.store 0 (Nat.le_refl _) _).store 1 (Nat.le_refl _) _⟩
  | some n1 =>
    obtain⟨zv,OB⟩:=Ek.o n1 rfl;obtain rfl:=F1 n1 rfl;obtain⟨q,rfl⟩:∃q:Nat,n0=q:=⟨n0.toNat,by omega⟩;clear F1;have CU:q<=5:=by omega
    have JN:IntKind.i64.wrap ((2:Int)^q)=(cN q:Int):=by
     have:=cW q CU;rw[<-gK,IntKind.wrap_i64];omega
    have PE:wrap64 ((2:Int)^q)=(cN q:Int):=(qt q CU).trans (gK q).symm;have M5:=gH (cN q) (j1 (cW q CU));obtain⟨vn,Vq⟩:=b9 (cN q);have QZ:=ae (show vn=2^q from Vq);have Zn:=ae (show 1<=vn/\vn<=32 by rw[Vq];exact cW q CU);rw[<-Vq]at JN PE M5;clear Vq r0 r1 f0 f1 q0;obtain⟨W2,Bo⟩:=b9 (w1.alloc (.cells (bh (List.replicate vn 0)) 3));have X2:=ae (show Ext w1 W2 by rw[Bo];exact Ext.alloc _ _)
    have wG:=ae (show o5 W2 w1.heap.size (.slice (some ⟨w1.heap.size,0,none⟩) vn vn) (List.replicate vn 0)by
     rw[Bo];exact Row.own (aj _ _ _ rfl) (Nat.le_refl _) e8 (j1 Zn.o))
    obtain⟨W3,Hj⟩:=b9 (W2.alloc (.cells #[.int .i64 (q:Int),.slice (some ⟨w1.heap.size,0,none⟩) vn vn] 32));have X3:=ae (show Ext W2 W3 by rw[Hj];exact Ext.alloc _ _);have H':=ae (show W3.heap[w1.heap.size+1]?=some (.cells #[.int .i64 (q:Int),.slice (some ⟨w1.heap.size,0,none⟩) vn vn] 32 (0,0))by rw[Hj];exact aj _ _ _ (by rw[Bo];simp));have vi:=ae (wG.o.ext X3.o);have Hp:=ae (show w.heap.size<w1.heap.size from lt_of_block Bg.o);have Zw:=ae HS.o.drop1;have NP:=ae (show w1.heap.size+1=w1.heap.size+1 from rfl);go_upto_region 10 with fail;rw[<-Bo,<-Hj];clear Bo Hj JN PE M5;have Rh:=ae (show Ls.length=m'+1 from Rg.o);obtain⟨g,hg⟩:=b9 (w1.heap.size+1);obtain⟨va,PG⟩:=b9 ((some ⟨w1.heap.size,0,none⟩:j6));rw[<-hg,<-PG]at H';rw[<-PG]at vi;rw[<-hg,<-PG];clear hg PG NP;go_upto_region 11 with fail
    go_cut [50,51,52] (fun s50 s51 s52 wx=>∃(sa:j6) (cd:Nat),s50=.slice sa m' cd/\s51=.int .i64 (m':Int)/\s52=.int .i64 0/\b7 (yM vI w1 sa m' cd (Ls.drop 1))/\b7 (W3=wx))
    case first =>
     by_cases hc:c'=0
     ·have HC:=ae hc;have hcT:(c'=0)=True:=eq_true hc;clear hc;go_wp2_with fail;go_meet
      exact⟨_,_,rfl,by go_num,rfl,ae (by
       obtain rfl:m'=0:=by have:=HC.o;omega
       exact yM.bare (by rw[List.length_drop,Rh.o]) _ _ 0),ae rfl⟩
     ·go_wp2_with fail;go_meet;exact⟨_,_,rfl,by go_num,rfl,Zw,ae rfl⟩
    obtain⟨sa,cd,rfl,rfl,rfl,Hs,O0⟩:=hcut;obtain rfl:=O0.o;have Nn:=Hs.o.l8;have Cy:=Hs.o.o0;clear O0;go_wp2_with fail
    go_loopg [8,52] m' (fun gk aa kk wr=>∃(k:Nat) (last:Int) (V:j7),b7 (gk+k=m')/\aa=.int .i64 last/\kk=.int .i64 (k:Int)/\b7 (bP (2^q) (Ls.drop 1) k=.ok (V,last))/\b7 (o5 wr w1.heap.size (.slice va vn vn) V)/\b7 (wr.heap[g]?=some (.cells #[.int .i64 (q:Int),.slice va vn vn] 32 (0,0)))/\b7 (Ext w1 wr))
    case atStart =>
     exact⟨0,0,List.replicate vn 0,ae e7,rfl,rfl,ae (by rw[QZ.o];rfl),vi,H',ae (X2.o.trans X3.o)⟩
    case round =>
     obtain⟨g1,o6⟩:=b9 gk;subst o6;obtain⟨wr,wR⟩:=b9 wr;subst wR;obtain⟨k,last,V,HK,rfl,rfl,IC,HO,HG,HX⟩:=hrel;have BU:(0:Int)<=(k:Int):=by omega
     have hkb:k<=1048577:=by have:=HK.o;omega
     by_cases hlt:k<m'
     ·have Aq:(k:Int)<(m':Int):=by omega
      obtain⟨lb2,lo2,x,rfl,GG,_⟩:=Hs.o.at (k:=k) hlt;have DJ:=dD (Hs.o.ext HX.o) GG;have DQ:=ae GG;have QR:=ae (xg.o x (List.mem_of_mem_drop (List.mem_of_getElem? GG)));obtain⟨R,hR⟩:∃R,dZ vn last x=R:=⟨_,rfl⟩;have zE:=ae hR
      have Pe:=ae (fun(h:R=none)=>(show P=((0,[]),(k:Int)+1)by
       have h0:bP (2^q) (Ls.drop 1) (k+1)=.error (k+1):=ns IC.o DQ.o (by rw[<-QZ.o,zE.o];exact h);have h1:=Hv.o.trans (nL FG.o L7.o.symm (k:=k+1) (by rw[Rh.o];omega) h0)
       rw[h1];simp))
      have Zu:=ae (kh (w:=wr) x 32 (by have:=QR.o;have:=Gf.o;omega));obtain⟨Lx,OO⟩:∃L,vV 32 x=L:=⟨_,rfl⟩;have Bi:=ae (fun y0 y1=>kl (N:=vn) (last:=last) OO (x0:=y0) (x1:=y1));have L0:=ae (kj (N:=vn) (last:=last) OO);have GY:=ae (fun sv (h:dZ vn last x=some sv)=>kI h);rw[OO]at Zu;rw[hR]at Bi L0 GY;obtain⟨tx,BG⟩:=b9 (bs x);rw[<-BG]at DJ Zu;clear GG hR BG OO;go_wp2_with fail;refine Zu.o.mono ?_;rintro e w3 ⟨v3,rfl,xt,vj⟩;obtain⟨a3,n3,c3,rfl,FF⟩:=xt.var;have zR:=ae xt.A2;have vk:=ae (HX.o.trans vj);have Ln:=ae (vj.blk HG.o);have Hy:=ae (HO.o.ext vj);have hcap3:=zR.o.l8;have hmax3:=zR.o.o0;clear xt vj DJ;by_cases Eu:n3=2
      ·subst Eu;obtain⟨b3,o3,y0,rfl,AL,_⟩:=zR.o.at (k:=0) e7;obtain⟨b3',o3',y1,e',xG,_⟩:=zR.o.at (k:=1) e7;simp only[Option.some.injEq,Addr.mk.injEq,and_true]at e';obtain⟨rfl,rfl⟩:=e';have q0:=dD zR.o AL;rw[Nat.add_zero]at q0;have UE:=ae (dD zR.o xG);have wg:=ae (Bi.o y0 y1 FF.o AL xG);have Ed:=ae (fun(w':World)=>kE (w:=w') y0);have Q6:=ae (fun(w':World)=>sK (w:=w') y1);obtain⟨b1,xL⟩:=b9 ((zm y0).isSome);obtain⟨b2,wU⟩:=b9 ((dw y1).isSome);obtain⟨s,hs⟩:=b9 ((zm y0).getD 0);obtain⟨v,hv⟩:=b9 ((dw y1).getD 0);rw[<-xL,<-wU,<-hs,<-hv]at wg;simp only[<-xL,<-hs]at Ed;simp only[<-wU,<-hv]at Q6;obtain⟨t0,Cp⟩:=b9 (bs y0);obtain⟨t1,Dh⟩:=b9 (bs y1);rw[<-Cp]at q0;rw[<-Dh]at UE;simp only[<-Cp]at Ed;simp only[<-Dh]at Q6;clear xL wU hs hv AL xG Cp Dh;go_wp2_with fail;refine(Ed.o _).mono ?_;rintro e w4 ⟨rfl,vW⟩;have xO:=ae (vk.o.trans vW);have GW:=ae (vW.blk Ln.o);have wV:=ae (Hy.o.ext vW);have zS:=ae (xO.o.blk Bg.o);have q1':=vW.j9 UE.o;clear vW q0;go_wp2_with fail;refine(Q6.o _).mono ?_;rintro e w5 ⟨rfl,Gx⟩;obtain rfl:=Gx.symm;clear Gx q1';have b0:=bw GW.o;have b1':=bp GW.o;have z0:=bw zS.o;have z1:=bp zS.o
       have Vl:=frozen_of_row w4 _ 0 _ _ zS.o;have Vk:=frozen_of_row w4 _ 1 _ _ zS.o;have key:=nq b1 b2 s v last vn
       rcases key with⟨rfl,HZ⟩|⟨rfl,rfl,HZ⟩|⟨rfl,rfl,h3,HZ⟩|⟨rfl,rfl,h3,h4,HZ⟩|⟨rfl,rfl,h3,h4,h5,HZ⟩|⟨rfl,rfl,h3,h4,h5,h6,HZ⟩|⟨rfl,rfl,h3,h4,h5,h6,HZ⟩
       rotate_right
       ·rw[HZ,if_pos rfl]at wg;have hRs:=wg.o;subst hRs;obtain⟨s1,s2,s3,s4⟩:=GY.o _ rfl;simp only at s1 s2 s3 s4;have AO:(0:Int)<=(s:Int):=by omega
        have h3':¬(s:Int)<=last:=by omega
        have h4':¬(vn:Int)<=(s:Int):=by omega
        have HN:=ae (show bP (2^q) (Ls.drop 1) (k+1)=.ok (V.set s v,(s:Int))from lM IC.o DQ.o (by rw[<-QZ.o];exact zE.o));obtain⟨gb,xK,Fa,Kd,Ev⟩:=wV.o.block (show s<vn by omega);have hne:=an wV.o GW.o (by decide);subst xK;have Ra:=ae (wV.o.set s v);have H9:=ae (show(w4.setCell ⟨gb,s,none⟩ (.int .i64 v)).heap[g]?=_ from(heap_setCell_other w4 ⟨gb,s,none⟩ g _ (fun e=>hne (by rw[show g=gb from e];rfl))).trans GW.o);have Zl:=ae (xO.o.store s Fa (.int .i64 v));have DN:=Kd s;obtain⟨gb',go',e',hcs⟩:=wV.o.ints.at (show s<vn by omega);simp only[Option.some.injEq,Addr.mk.injEq,and_true]at e';obtain⟨rfl,rfl⟩:=e';rw[Nat.zero_add]at hcs;clear hne Kd Ev s1 s2 s3 s4 HZ z0 z1 Vl Vk b0;go_wp2_with (first|(go_at_call 61;refine(aJ _ _ _ _).mono ?_;rintro e w6 ⟨rfl,rfl⟩))
        go_roundg (g1-1)
        case measure=>have:=HK.o;omega
        case rel=>exact⟨k+1,(s:Int),V.set s v,ae (j1 HK.o),rfl,by go_num,HN,Ra,H9,Zl⟩
       all_goals
        rw[HZ,if_neg (by decide)]at wg;clear HZ;have HE:=ae (Pe.o wg.o)
        try have h3':(s:Int)<=last:=by omega
        try have h3':¬(s:Int)<=last:=by omega
        try have h4':(vn:Int)<=(s:Int):=by omega
        try have h4':¬(vn:Int)<=(s:Int):=by omega
        go_wp2_with (first|(go_at_call 61;refine(aJ _ _ _ _).mono ?_;rintro e w6 ⟨rfl,rfl⟩));refine bodyPost_ret (v:=.tuple #[pair 0 none 0 0,.int .i64 ((k:Int)+1)]) (by simp[results,Tryz.results22,go_sem,pair,z0,z1]) rfl ⟨AJ.o _ _ HE.o,((yK.o.trans xO.o).store 0 (Nat.le_refl _) _).store 1 (Nat.le_refl _) _⟩
      ·have hne:((n3:Int) == 2)=false:=by simp;omega
       have HE:=ae (Pe.o (L0.o (by rw[FF.o];exact Eu)));have Eb:=ae (vk.o.blk Bg.o);have z0:=bw Eb.o;have z1:=bp Eb.o;have Vl:=frozen_of_row w3 _ 0 _ _ Eb.o;have Vk:=frozen_of_row w3 _ 1 _ _ Eb.o;go_wp2_with fail;refine bodyPost_ret (v:=.tuple #[pair 0 none 0 0,.int .i64 ((k:Int)+1)]) (by simp[results,Tryz.results22,go_sem,pair,z0,z1]) rfl ⟨AJ.o _ _ HE.o,((yK.o.trans vk.o).store 0 (Nat.le_refl _) _).store 1 (Nat.le_refl _) _⟩
     ·have yV:k=m':=by have:=HK.o;omega
      have Fo:=ae (show bP (2^q) (Ls.drop 1) (Ls.length-1)=.ok (V,last)by rw[Rh.o,Nat.add_sub_cancel,<-yV];exact IC.o);have Lc:=ae (Hv.o.trans (nK FG.o L7.o.symm Fo.o));have B0:=ae (jw Fo.o);have Vb:=ae (oU (p:=q) HO.o.ints (fun k=>by have:=B0.o.2.2.1 k;omega) (eS uW.o (yK.o.trans HX.o)))
      have LR:=ae (show((bs (dq q V)).toList == tt.toList)=decide (dq q V=t)by
       rw[GO.o,bL,bL,Bool.eq_iff_iff,beq_iff_eq,decide_eq_true_eq])
      obtain⟨tg,SO⟩:=b9 (bs (dq q V));rw[<-SO]at Vb LR;have Aq:¬(k:Int)<(m':Int):=by omega
      have b0:=bw HG.o;have b1:=bp HG.o;clear yV SO;go_wp2_with fail;refine Vb.o.mono ?_;rintro e w4 ⟨rfl,hx⟩;have xO:=ae (HX.o.trans hx);have GW:=ae (hx.blk HG.o);have wV:=ae (HO.o.ext hx);clear hx b0 b1;have b0:=bw GW.o;have b1:=bp GW.o;by_cases AX:dq q V=t
      ·have JV:(tg.toList == tt.toList)=true:=by rw[LR.o,decide_eq_true AX]
       have HE:=ae (show P=((q,V),-1)by rw[Lc.o];exact if_pos AX);have zA:=ae (iG wV.o.ints (j1 Zn.o));clear AX;go_wp2_with fail;refine zA.o.mono ?_;rintro e w5 ⟨vc,rfl,M0,hx⟩;have AH:=ae (xO.o.trans hx);have EB:=ae (AH.o.blk Bg.o);have z0:=bw EB.o;have z1:=bp EB.o;have Vl:=frozen_of_row w5 _ 0 _ _ EB.o;have Vk:=frozen_of_row w5 _ 1 _ _ EB.o;obtain⟨ac,nc,cc,rfl,UN⟩:=M0.var;have BK:=ae M0;have hz4:=xO.o.size;clear M0 hx;go_wp2_with fail;refine bodyPost_ret (v:=.tuple #[pair (q:Int) ac nc cc,.int .i64 (-1)]) (by simp[results,Tryz.results22,go_sem,pair,z0,z1]) rfl ⟨⟨ac,nc,cc,by rw[HE.o],?_⟩,((yK.o.trans AH.o).store 0 (Nat.le_refl _) _).store 1 (Nat.le_refl _) _⟩;rw[HE.o];have h2:=Hp.o;refine(BK.o.mono e7).keep fun j hj=>?_
       have h1:=(BK.o.lt j hj).1;rw[heap_setCell_other _ _ _ _ (by simp;omega),heap_setCell_other _ _ _ _ (by simp;omega)]
      ·have JV:(tg.toList == tt.toList)=false:=by rw[LR.o,decide_eq_false AX]
       have HE:=ae (show P=((0,[]),((m'+1:Nat):Int))by rw[Lc.o,<-Rh.o];exact if_neg AX);have zS:=ae (xO.o.blk Bg.o);have z0:=bw zS.o;have z1:=bp zS.o;have Vl:=frozen_of_row w4 _ 0 _ _ zS.o;have Vk:=frozen_of_row w4 _ 1 _ _ zS.o;clear AX;go_wp2_with fail;refine bodyPost_ret (v:=.tuple #[pair 0 none 0 0,.int .i64 ((m'+1:Nat):Int)]) (by simp[results,Tryz.results22,go_sem,pair,z0,z1]) rfl ⟨AJ.o _ _ HE.o,((yK.o.trans xO.o).store 0 (Nat.le_refl _) _).store 1 (Nat.le_refl _) _⟩
end Go.Proofs.YtdadoignenffgaaGreatDoor
