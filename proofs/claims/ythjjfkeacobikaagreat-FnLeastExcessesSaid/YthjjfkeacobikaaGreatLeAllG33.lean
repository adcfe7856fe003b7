import Derived.Test.YthjjfkeacobikaaGreatLeAllG32
import Derived.Test.YthjjfkeacobikaaGreatLeAllG19
import Derived.Test.YthjjfkeacobikaaGreatLeAllG20
import Derived.Test.YthjjfkeacobikaaGreatLeAllG22
set_option linter.unusedVariables false
set_option linter.unusedSimpArgs false
namespace Go.Proofs.YthjjfkeacobikaaGreat
set_option maxRecDepth 100000
open Go.RowKit
theorem kI (x y:Int) (w:World):Calls Tryz.prog 225 #[ratV x y] w fun e w'=>e=.returned (.int .i64 (cmpR (x,y) (0,1)))/\Ext w w':=by
 obtain ⟨W,hW⟩:∃ W,W=w.alloc (.cells #[.int .i64 x,.int .i64 y] 43):=⟨_,rfl⟩;have HX:=ae (show Ext w W by rw [hW];exact Ext.alloc _ _);have c0:W.cell? ⟨w.heap.size,0,none⟩=some (.int .i64 x):=by rw [hW];simp
 have c1:W.cell? ⟨w.heap.size,1,none⟩=some (.int .i64 y):=by rw [hW];simp
 go_enter Tryz.func225,Tryz.ntmps225
 go_upto_region 1 with fail;rw [<-hW];clear hW;have hk2:Ext W W.drew:=Ext.drew W;have hka:=hk2;have HKEEP:=ae (fun (w':World) (h:Ext W w')=>(⟨h.cellSome c0,h.cellSome c1,h⟩:w'.cell? ⟨w.heap.size,0,none⟩=some (.int .i64 x)/\w'.cell? ⟨w.heap.size,1,none⟩=some (.int .i64 y)/\Ext W w'))
 go_region_held3 (fun w'=>w'.cell? ⟨w.heap.size,0,none⟩=some (.int .i64 x)/\w'.cell? ⟨w.heap.size,1,none⟩=some (.int .i64 y)/\Ext W w')
  (with_reducible exact HKEEP.out _ hk2)
  (first
    | (go_at_call 86
       (with_reducible refine (bJ 0 _).mono ?_)
       rintro e w3 ⟨rfl,hx_w3⟩;have hk2:Ext W w3:=hk2.trans hx_w3
       have hs_w3:=hk2.size)
    | (go_at_call 147
       (with_reducible refine (eL x y 0 1 _).mono ?_)
       rintro e w4 ⟨rfl,hx_w4⟩;have hk2:Ext W w4:=hk2.trans hx_w4
       have hs_w4:=hk2.size)
    | fail)
 clear HKEEP hka;go_wp2_with fail;go_ret;exact ⟨rfl,HX.out.trans hk2⟩
set_option maxHeartbeats 4000000 in
theorem kE {w:World} {ra:Option Addr} {rn rc:Nat} {ba:Option Addr} {bn bc:Nat} {x:Int} {a:Option Addr} {n cap:Nat} {costs:List (Int × Int)} (h:Rats w a n cap costs) (m:Nat) (hm:m<=n) :
 Calls Tryz.prog 268 #[tbW ra rn rc ba bn bc x,.slice a n cap,.int .i64 (m:Int)] w fun e w'=>e=.returned (.int .i64 (bp costs m))/\Ext w w':=by
 have hx0:=Ext.alloc w (bQ ra rn rc ba bn bc x);have HX0:=ae hx0;have H:=ae (h.ext hx0);have hc1:=h.hcap;have hc2:=h.hmax;have HL:=ae h.hlen;clear h hx0;have hle:(m:Int)<=(n:Int):=by omega
 go_enter Tryz.func268,Tryz.ntmps268
 go_wp2_with fail
 go_loopg [7] m (fun gk ii wr=>∃ k:Nat,Hid (gk+k=m)/\ii=.int .i64 (k:Int)/\Hid ((costs.take k).all (fun c=>!eI c)=true)/\Hid (Ext (w.alloc (bQ ra rn rc ba bn bc x)) wr))
 case atStart=>exact ⟨0,ae (by omega),rfl,ae rfl,ae (Ext.refl _)⟩
 case round =>
  obtain ⟨g1,h_g1⟩:∃ x,x=gk:=⟨_,rfl⟩;subst h_g1;obtain ⟨wr1,h_wr1⟩:∃ x,x=wr:=⟨_,rfl⟩;subst h_wr1;obtain ⟨k,HK,rfl,HA,HX⟩:=hrel;by_cases hlt:k<m
  ·have hkn:k<n:=by omega
   obtain ⟨zb,zoff,p,q,hza,hpq,hz0,hz1⟩:=(H.out.ext HX.out).at hkn;subst hza;have HPQ:=ae hpq;have HS:=ae (kI p q wr1);obtain ⟨sg,hsg⟩:∃ s,s=cmpR (p,q) (0,1):=⟨_,rfl⟩;have HSG:=ae (show eI (p,q)=decide (sg<0) by rw [hsg];rfl);rw [<-hsg] at HS;clear hpq hsg;by_cases hs0:sg<0
   ·have HR:=ae (show bp costs m=k from mS (by rw [HL.out];omega) hlt HA.out (by rw [HPQ.out,HSG.out,decide_eq_true hs0]));go_wp2_with fail;refine HS.out.mono ?_;rintro e w3 ⟨rfl,hx⟩;have X3:=ae (HX.out.trans hx);clear hx;go_wp2_with fail;go_ret;exact ⟨aQ HR.out.symm,HX0.out.trans X3.out⟩
   ·have HT:=ae (jW (by rw [HL.out];exact hkn) HPQ.out HA.out (by rw [HSG.out,decide_eq_false hs0]));go_wp2_with fail;refine HS.out.mono ?_;rintro e w3 ⟨rfl,hx⟩;have X3:=ae (HX.out.trans hx);clear hx;go_wp2_with fail
    go_roundg (g1-1)
    case measure=>have:=HK.out;omega
    case rel=>exact ⟨k+1,ae (by have:=HK.out;omega),by go_num,HT,X3⟩
  ·have hkm:m=k:=by have:=HK.out;omega
   subst hkm;have HR:=ae (show bp costs m=-1 from jX (by rw [HL.out];omega) HA.out);go_wp2_with fail;go_ret;exact ⟨aQ HR.out.symm,HX0.out.trans HX.out⟩
section
variable {w:World} {ra:Option Addr} {rc:Nat} {ba:Option Addr} {bc:Nat} {t:Tb} {n m:Nat} {T0:Nat->Nat->Rat}
set_option maxHeartbeats 16000000 in
theorem pe (h:TbC w ra m rc ba m bc t) (hT:TInv n m T0 t) (hn:n<=1000) (hm:m<=1000) {c:Nat} (hc:c<n) :
 Calls Tryz.prog 269 #[tbW ra m rc ba m bc (n:Int),.int .i64 (c:Int)] w fun e w'=>e=.returned (.int .i64 (cq t (c:Int)))/\Ext w w':=by
 have hx0:=Ext.alloc w (bQ ra m rc ba m bc (n:Int));have HX0:=ae hx0;have H:=ae (h.ext hx0);have HTB:=ae (show (w.alloc (bQ ra m rc ba m bc (n:Int))).heap[w.heap.size]?=some (.cells #[.slice ra m rc,.slice ba m bc,.int .i64 (n:Int)] 83 (0,0)) from aj _ _ _ rfl);have hr1:=h.rows.hcap;have hr2:=h.rows.hmax;have hb1:=h.basis.hcap;have hb2:=h.basis.hmax;have HT:=ae hT
 have HR:=ae (show cq t (c:Int)=(bL t c m).1 by
  unfold cq
  rw [if_pos (by rw [hT.ok hn,hT.cols,hT.len];simp [inB];omega),hT.len,Int.toNat_natCast])
 have HG:=ae (iZ H.out hT hn hm);obtain ⟨u,hu⟩:∃ u,u=n+m:=⟨_,rfl⟩;have HU:=ae (show u=t.cols.toNat+t.rows.length by rw [hT.cols,hT.len,Int.toNat_natCast];exact hu);have HUM:=ae hu;have HIN:=ae (fun w'=>bw (c:Int) 0 ((n:Int)+(m:Int)-1) w');rw [show inB (c:Int) 0 ((n:Int)+(m:Int)-1)=true by unfold inB;simp;omega] at HIN;have hw1:IntKind.i64.wrap ((n:Int)+(m:Int))=(n:Int)+(m:Int):=by rw [IntKind.wrap_i64];omega
 have hw3:IntKind.i64.wrap ((n:Int)+(m:Int)-1)=(n:Int)+(m:Int)-1:=by rw [IntKind.wrap_i64];omega
 clear h hT hx0 hu;go_enter Tryz.func269,Tryz.ntmps269
 go_upto_region 1 with fail;obtain ⟨W,hW⟩:∃ x,x=w.alloc (bQ ra m rc ba m bc (n:Int)):=⟨_,rfl⟩;rw [<-hW] at HX0 H HTB HG;rw [<-hW];clear hW;have p0:=aq HTB.out;have p1:=aw HTB.out;have p2:=az HTB.out;go_wp2_with fail;refine HG.out.mono ?_;rintro e w1 ⟨rfl,hx⟩;have X1:=ae hx;clear hx p0 p1 p2;have p0:=aq (X1.out.blk HTB.out);have p2:=az (X1.out.blk HTB.out);have HB0:=ae (ah.new (Ext.refl w1) 0 0);go_wp2_with (first|(go_at_call 95;refine (HIN.out _).mono ?_;rintro e w2 ⟨rfl,rfl⟩));clear hw3
 go_loopg [5,7] m (fun gk bst ii wr=>∃ (k:Nat) (st l1 l2:Int),Hid (gk+k=m)/\ii=.int .i64 (k:Int)/\bst=.int .i64 st/\Hid (bL t c k=(st,(l1,l2)))/\Hid (ah w1 wr w1.heap.size l1 l2))
 case atStart=>exact ⟨0,-1,0,0,ae (by omega),rfl,rfl,ae rfl,HB0⟩
 case round =>
  obtain ⟨g1,h_g1⟩:∃ x,x=gk:=⟨_,rfl⟩;subst h_g1;obtain ⟨wr1,h_wr1⟩:∃ x,x=wr:=⟨_,rfl⟩;subst h_wr1;obtain ⟨k,st,l1,l2,HK,rfl,rfl,HL,HB⟩:=hrel;have XR:=ae (X1.out.trans HB.out.ext);clear p0 p2;have p0:=aq (XR.out.blk HTB.out);by_cases hlt:k<m
  ·obtain ⟨zb,zoff,za,zn,zc,hza,hz0,hrow⟩:=(H.out.ext XR.out).rows.at hlt;subst hza;have hzn:zn=u+1:=by rw [<-hrow.hlen,HUM.out];exact (HT.out.row k hlt).1
   have HZN:=ae hzn;have hrc:=hrow.hcap;have hrm:=hrow.hmax;have HROW:=ae hrow;have hcz:c<zn:=by have:=HUM.out;omega
   obtain ⟨yb,yoff,p,q,hya,hpq,hy0,hy1⟩:=hrow.at hcz;subst hya;have HPQ:=ae (show t.at k c=(p,q) from hpq);have hczI:(c:Int)<(zn:Int):=by omega
   clear hpq hrow hzn;obtain ⟨E,hE⟩:∃ E,E=wr1.alloc (.cells #[.int .i64 p,.int .i64 q] 43):=⟨_,rfl⟩;obtain ⟨gp,hgp⟩:∃ g,g=wr1.heap.size:=⟨_,rfl⟩;have hxE:Ext wr1 E:=by rw [hE];exact Ext.alloc _ _
   have HBP:=ae (show ah wr1 E gp p q by rw [hE,hgp];exact ah.new (Ext.refl _) _ _);have HBE:=ae (HB.out.grow hxE);go_upto_region 9 with fail;rw [<-hE,<-hgp];clear hE hgp hxE p0 hz0 hy0 hy1;have XE:=ae (X1.out.trans HBE.out.ext);have p0:=aq (XE.out.blk HTB.out);have p2:=az (XE.out.blk HTB.out);obtain ⟨zb',zoff',za',zn',zc',hza',hz0,hrow'⟩:=(H.out.ext XE.out).rows.at hlt;simp only [Option.some.injEq,Addr.mk.injEq,and_true] at hza';obtain ⟨rfl,rfl⟩:=hza';have hzn':zn'=u+1:=by rw [<-hrow'.hlen,HUM.out];exact (HT.out.row k hlt).1
   have HZN':=ae hzn';obtain ⟨ub,uoff,p',q',hua,hpq',hv0,hv1⟩:=hrow'.at (show u<zn' by omega);subst hua;have hrc':=hrow'.hcap;have hrm':=hrow'.hmax;have HQQ:=ae (show t.at k u=(p',q') from hpq');have e0:=HBP.out.c0;have e1:=HBP.out.c1;obtain ⟨d1,d2,dok,hdd⟩:∃ x y ok,divR (p',q') (p,q)=((x,y),ok):=⟨_,_,_,rfl⟩;have HDD:=ae hdd;have hwu:IntKind.i64.wrap ((n:Int)+(m:Int))=(u:Int):=by have:=HUM.out;rw [IntKind.wrap_i64];omega
   have hu0:(0:Int)<=(u:Int):=by omega
   have hu1:(u:Int)<(zn':Int):=by omega
   have hk0:(0:Int)<=(k:Int):=by omega
   have hk1:(k:Int)<(m:Int):=by omega
   clear hpq' hdd hrow' hzn' hw1;go_upto_region 9 with fail
   go_cut [9,10] (fun sx so wx=>∃ g:Nat,sx=.pointer (some ⟨g,0,none⟩)/\so=.bool dok/\Hid (ah E wx g d1 d2))
   case first =>
    have hk2:Ext E E.drew:=Ext.drew E;have hka:Ext E (E.alloc (.cells #[.int .i64 0,.int .i64 0] 43)).drew:=(Ext.alloc _ _).trans (Ext.drew _);have HKEEP:=ae (fun (w':World) (h:Ext E w')=>(⟨h.cellSome p0,h.cellSome p2,h.cellSome hz0,h.cellSome hv0,h.cellSome hv1,h.cellSome e0,h.cellSome e1,h⟩:w'.cell? ⟨w.heap.size,0,none⟩=some (.slice (some ⟨zb,zoff,none⟩) m rc)/\w'.cell? ⟨w.heap.size,2,none⟩=some (.int .i64 (n:Int))/\w'.cell? ⟨zb,zoff+k,none⟩=some (.slice (some ⟨ub,uoff,none⟩) zn' zc')/\w'.cell? ⟨ub,uoff+u*2,none⟩=some (.int .i64 p')/\w'.cell? ⟨ub,uoff+u*2+1,none⟩=some (.int .i64 q')/\w'.cell? ⟨gp,0,none⟩=some (.int .i64 p)/\w'.cell? ⟨gp,1,none⟩=some (.int .i64 q)/\Ext E w'))
    go_region_held3 (fun w'=>w'.cell? ⟨w.heap.size,0,none⟩=some (.slice (some ⟨zb,zoff,none⟩) m rc)/\w'.cell? ⟨w.heap.size,2,none⟩=some (.int .i64 (n:Int))/\w'.cell? ⟨zb,zoff+k,none⟩=some (.slice (some ⟨ub,uoff,none⟩) zn' zc')/\w'.cell? ⟨ub,uoff+u*2,none⟩=some (.int .i64 p')/\w'.cell? ⟨ub,uoff+u*2+1,none⟩=some (.int .i64 q')/\w'.cell? ⟨gp,0,none⟩=some (.int .i64 p)/\w'.cell? ⟨gp,1,none⟩=some (.int .i64 q)/\Ext E w')
     (first
       | with_reducible exact HKEEP.out _ hk2
       | with_reducible exact HKEEP.out _ hka
       | with_reducible exact HKEEP.out _ ((hk2.setCell (by first|(simp;done)|(simp;omega)) _).setCell (by first|(simp;done)|(simp;omega)) _)
       | with_reducible exact HKEEP.out _ (hk2.trans (Ext.alloc _ _))
       | with_reducible exact HKEEP.out _ (hBB.put _ _).ext)
     (first
       | (go_at_call 183
          (with_reducible refine (oY p' q' p q _).mono ?_)
          rw [HDD.out];rintro e w5 ⟨rfl,hx_w5⟩
          first|(with_reducible have hBB:=ah.grow hBB hx_w5)|(with_reducible have hBB:=ah.firstD hx_w5)|(with_reducible have hBB:=ah.laterD hk2 hx_w5)|skip
          first|(have b0_:=hBB.c0;have b1_:=hBB.c1;have fb_:=hBB.free)|skip
          have hk2:Ext E w5:=by first|with_reducible exact hk2.trans hx_w5|with_reducible exact hka.trans hx_w5|with_reducible exact (hk2.trans (Ext.alloc _ _)).trans hx_w5
          have hk2s:=hk2.size)
       | fail)
    all_goals (go_wp2_with fail;go_meet;first|exact ⟨_,rfl,rfl,ae (hBB.put _ _)⟩|exact ⟨_,rfl,rfl,ae (ah.new hk2 _ _)⟩|exact ⟨_,rfl,rfl,ae (ah.new' hk2 _ _ (by simp))⟩)
   obtain ⟨g,rfl,rfl,HB1⟩:=hcut;clear hwu hu0 hu1 p0 p2 hz0 hv0 hv1 e0 e1;have HBC:=ae (HBE.out.grow HB1.out.ext);have HBPC:=ae (HBP.out.grow HB1.out.ext);have e0:=HBPC.out.c0;have e1:=HBPC.out.c1;have HS:=ae (kI p q wc);obtain ⟨sg,hsg⟩:∃ s,s=cmpR (p,q) (0,1):=⟨_,rfl⟩;have HSG:=ae hsg;rw [<-hsg] at HS;clear hsg;by_cases hs0:sg<=0
   ·have HST:=ae (show bL t c (k+1)=(st,(l1,l2)) by
     show dt _ c (bL _ c k) k=_
     rw [HL.out];exact oI HPQ.out (by rw [<-HSG.out];exact hs0))
    go_wp2_with fail;refine HS.out.mono ?_;rintro e w3 ⟨rfl,hx⟩;have HB3:=ae (HBC.out.grow hx);clear hx;go_wp2_with fail
    go_roundg (g1-1)
    case measure=>have:=HK.out;omega
    case rel=>exact ⟨k+1,st,l1,l2,ae (by have:=HK.out;omega),by go_num,rfl,HST,HB3⟩
   ·have HS0:=ae hs0;cases dok
    ·have HST:=ae (show bL t c (k+1)=(st,(l1,l2)) by
      show dt _ c (bL _ c k) k=_
      rw [HL.out];exact oJ HU.out HPQ.out HQQ.out (by rw [<-HSG.out];have:=HS0.out;omega) (by rw [HDD.out]))
     go_wp2_with fail;refine HS.out.mono ?_;rintro e w3 ⟨rfl,hx⟩;have HB3:=ae (HBC.out.grow hx);clear hx;go_wp2_with fail
     go_roundg (g1-1)
     case measure=>have:=HK.out;omega
     case rel=>exact ⟨k+1,st,l1,l2,ae (by have:=HK.out;omega),by go_num,rfl,HST,HB3⟩
    ·go_wp2_with fail;refine HS.out.mono ?_;rintro e w3 ⟨rfl,hx⟩;have HB3:=ae (HBC.out.grow hx);have HD3:=ae (HB1.out.grow hx);have g0:=HD3.out.c0;have g1':=HD3.out.c1;have b0:=HB3.out.c0;have b1:=HB3.out.c1;have HCM:=ae (eL d1 d2 l1 l2 w3);obtain ⟨cc,hcc⟩:∃ s,s=cmpR (d1,d2) (l1,l2):=⟨_,rfl⟩;have HCC:=ae hcc;rw [<-hcc] at HCM;clear hcc hx e0 e1;go_wp2_with fail;refine HCM.out.mono ?_;rintro e w6 ⟨rfl,hx⟩;have HB6:=ae (HB3.out.grow hx);have HG6:=ae (HD3.out.grow hx);clear hx g0 g1' b0 b1;have X6:=ae (X1.out.trans HB6.out.ext);have c1:=aw (X6.out.blk HTB.out);obtain ⟨eb,eoff,hea,he0⟩:=(H.out.ext X6.out).basis.at hlt;subst hea;obtain ⟨bi,hbi⟩:∃ b,b=t.basis[k]?.getD 0:=⟨_,rfl⟩;have HBI:=ae hbi;rw [<-hbi] at he0;clear hbi;have HBD:=ae (io t c k)
     have HUP:=ae (fun bb (hbb:t.basis[st.toNat]?.getD 0=bb)=>show bL t c (k+1)=if updB st cc bi bb=true then ((k:Int),(d1,d2)) else (st,(l1,l2)) by
      show dt _ c (bL _ c k) k=_;rw [HL.out,HCC.out]
      exact oK HU.out HPQ.out HQQ.out (by rw [<-HSG.out];have:=HS0.out;omega) HDD.out HBI.out.symm hbb)
     go_upto_region 12 with fail
     go_cut [93] (fun s82 wx=>∃ bb:Int,s82=.bool (updB st cc bi bb)/\Hid (t.basis[st.toNat]?.getD 0=bb)/\Hid (Ext w6 wx))
     case first =>
      have hk2:Ext w6 w6.drew:=Ext.drew w6;by_cases hst:st<0
      ·have hd0:decide (st<0)=true:=decide_eq_true hst;refine wp_region_held_drew (S:=(fun w'=>w'.cell? ⟨w.heap.size,1,none⟩=some (.slice (some ⟨eb,eoff,none⟩) m bc)/\w'.cell? ⟨eb,eoff+k,none⟩=some (.int .i64 bi)/\Ext w6 w')) (by kernel_rfl) ?_ (fun hHeld=>?_)
       ·exact ⟨hk2.cellSome c1,hk2.cellSome he0,hk2⟩
       refine tk 0 ?_;refine tk 1 ?_;refine tk 2 ?_;refine sk 3 ?_;refine sk 4 ?_;refine tk 5 ?_;refine tk 6 ?_;refine sk 7 ?_;refine sk 8 ?_;refine sk 9 ?_;refine sk 10 ?_;refine sk 11 ?_;refine sk 12 ?_;refine sk 13 ?_;refine sk 14 ?_;refine sk 15 ?_;refine sk 16 ?_;refine sk 17 ?_;refine sk 18 ?_;refine sk 19 ?_;refine sk 20 ?_;refine sk 21 ?_;refine tk 22 ?_;refine wpAnyH_done (by kernel_rfl) ?_ _;go_wp2_with fail;go_meet;exact ⟨_,by unfold updB;rw [hd0];rfl,ae rfl,ae hk2⟩
      ·have hd0:decide (st<0)=false:=decide_eq_false (by omega);obtain ⟨sn,rfl⟩:∃ sn:Nat,st=sn:=⟨st.toNat,by omega⟩;have hsn:sn<m:=by have:=HBD.out;rw [HL.out] at this;simp only at this;omega
       obtain ⟨fb,foff,hfa,hf0⟩:=(H.out.ext X6.out).basis.at hsn;simp only [Option.some.injEq,Addr.mk.injEq,and_true] at hfa;obtain ⟨rfl,rfl⟩:=hfa;obtain ⟨bb,hbb⟩:∃ b,b=t.basis[sn]?.getD 0:=⟨_,rfl⟩;have HBB:=ae (show t.basis[Int.toNat (sn:Int)]?.getD 0=bb by rw [Int.toNat_natCast,hbb]);rw [<-hbb] at hf0;have hs0':(0:Int)<=(sn:Int):=by omega
       have hs1':(sn:Int)<(m:Int):=by omega
       clear hbb;by_cases hcc:cc<0
       ·have hd1:decide (cc<0)=true:=decide_eq_true hcc;refine wp_region_held_drew (S:=(fun w'=>w'.cell? ⟨w.heap.size,1,none⟩=some (.slice (some ⟨eb,eoff,none⟩) m bc)/\w'.cell? ⟨eb,eoff+k,none⟩=some (.int .i64 bi)/\Ext w6 w')) (by kernel_rfl) ?_ (fun hHeld=>?_)
        ·exact ⟨hk2.cellSome c1,hk2.cellSome he0,hk2⟩
        refine tk 0 ?_;refine tk 1 ?_;refine tk 2 ?_;refine tk 3 ?_;refine tk 4 ?_;refine tk 5 ?_;refine tk 6 ?_;refine sk 7 ?_;refine sk 8 ?_;refine sk 9 ?_;refine sk 10 ?_;refine sk 11 ?_;refine sk 12 ?_;refine sk 13 ?_;refine sk 14 ?_;refine sk 15 ?_;refine sk 16 ?_;refine sk 17 ?_;refine sk 18 ?_;refine sk 19 ?_;refine sk 20 ?_;refine sk 21 ?_;refine tk 22 ?_;refine wpAnyH_done (by kernel_rfl) ?_ _;go_wp2_with fail;go_meet;exact ⟨bb,by unfold updB;rw [hd0,hd1];rfl,HBB,ae hk2⟩
       ·have hd1:decide (cc<0)=false:=decide_eq_false (by omega);by_cases hc0:cc=0
        ·subst hc0;refine wp_region_held_drew (S:=(fun w'=>w'.cell? ⟨w.heap.size,1,none⟩=some (.slice (some ⟨eb,eoff,none⟩) m bc)/\w'.cell? ⟨eb,eoff+k,none⟩=some (.int .i64 bi)/\w'.cell? ⟨eb,eoff+sn,none⟩=some (.int .i64 bb)/\Ext w6 w')) (by kernel_rfl) ?_ (fun hHeld=>?_)
         ·exact ⟨hk2.cellSome c1,hk2.cellSome he0,hk2.cellSome hf0,hk2⟩
         refine tk 0 ?_;refine tk 1 ?_;refine tk 2 ?_;refine tk 3 ?_;refine tk 4 ?_;refine tk 5 ?_;refine tk 6 ?_;refine tk 7 ?_;refine tk 8 ?_;refine tk 9 ?_;refine tk 10 ?_;refine tk 11 ?_;refine tk 12 ?_;refine tk 13 ?_;refine tk 14 ?_;refine tk 15 ?_;refine tk 16 ?_;refine tk 17 ?_;refine tk 18 ?_;refine tk 19 ?_;refine tk 20 ?_;refine tk 21 ?_;refine tk 22 ?_;refine wpAnyH_done (by kernel_rfl) ?_ _;go_wp2_with fail;go_meet;exact ⟨bb,by unfold updB;rw [hd0];rfl,HBB,ae hk2⟩
        ·have hd2:(cc == 0)=false:=by simp;omega
         refine wp_region_held_drew (S:=(fun w'=>w'.cell? ⟨w.heap.size,1,none⟩=some (.slice (some ⟨eb,eoff,none⟩) m bc)/\w'.cell? ⟨eb,eoff+k,none⟩=some (.int .i64 bi)/\Ext w6 w')) (by kernel_rfl) ?_ (fun hHeld=>?_)
         ·exact ⟨hk2.cellSome c1,hk2.cellSome he0,hk2⟩
         refine tk 0 ?_;refine tk 1 ?_;refine tk 2 ?_;refine tk 3 ?_;refine tk 4 ?_;refine tk 5 ?_;refine tk 6 ?_;refine tk 7 ?_;refine tk 8 ?_;refine tk 9 ?_;refine sk 10 ?_;refine sk 11 ?_;refine sk 12 ?_;refine sk 13 ?_;refine sk 14 ?_;refine sk 15 ?_;refine sk 16 ?_;refine sk 17 ?_;refine sk 18 ?_;refine sk 19 ?_;refine sk 20 ?_;refine tk 21 ?_;refine tk 22 ?_;refine wpAnyH_done (by kernel_rfl) ?_ _;go_wp2_with fail;go_meet;exact ⟨bb,by unfold updB;rw [hd0,hd1,decide_eq_false hc0];rfl,HBB,ae hk2⟩
     obtain ⟨bb,rfl,HBB,HX7⟩:=hcut;have HB7:=ae (HB6.out.grow HX7.out);have HG7:=ae (HG6.out.grow HX7.out);have HU2:=ae (HUP.out bb HBB.out);clear c1 he0;cases hub2:updB st cc bi bb
     ·have HST:=ae (show bL t c (k+1)=(st,(l1,l2)) by rw [HU2.out,hub2];rfl);go_wp2_with fail
      go_roundg (g1-1)
      case measure=>have:=HK.out;omega
      case rel=>exact ⟨k+1,st,l1,l2,ae (by have:=HK.out;omega),by go_num,rfl,HST,HB7⟩
     ·have HST:=ae (show bL t c (k+1)=((k:Int),(d1,d2)) by rw [HU2.out,hub2];rfl);have g0:=HG7.out.c0;have g1':=HG7.out.c1;have b0:=HB7.out.c0;have b1:=HB7.out.c1;have bf:=HB7.out.free;have HB8:=ae (HB7.out.put d1 d2);go_wp2_with fail
      go_roundg (g1-1)
      case measure=>have:=HK.out;omega
      case rel=>exact ⟨k+1,(k:Int),d1,d2,ae (by have:=HK.out;omega),by go_num,rfl,HST,HB8⟩
  ·have hkn:m=k:=by have:=HK.out;omega
   subst hkn;have HY:=ae (show cq t (c:Int)=st by rw [HR.out,HL.out]);go_wp2_with fail;go_ret;exact ⟨aQ HY.out.symm,HX0.out.trans XR.out⟩
end
end Go.Proofs.YthjjfkeacobikaaGreat
namespace Go.Proofs.YthjjfkeacobikaaGreat
set_option maxRecDepth 100000
open Go.RowKit
section
variable {w:World} {ra:Option Addr} {rc:Nat} {ba:Option Addr} {bc:Nat} {t:Tb} {n m:Nat} {T0:Nat->Nat->Rat}
theorem costN_go {t:Tb} {cost r:List (Int × Int)} {k:Nat} (h:cJ t cost k=some r):cJ t cost (k+1)=sclL r (negR (cost[(t.basis[k]?.getD 0).toNat]?.getD (0,0))) (t.row k):=by
 simp only [cJ];rw [h];rfl
set_option maxHeartbeats 16000000 in
theorem tB (h:TbC w ra m rc ba m bc t) (hT:TInv n m T0 t) (hn:n<=1000) (hm:m<=1000) {ka:Option Addr} {kn kc:Nat} {cost:List (Int × Int)} (hk:Rats w ka kn kc cost) (hkl:kn=n+m) (hv:allV cost=true) :
 Calls Tryz.prog 267 #[tbW ra m rc ba m bc (n:Int),.slice ka kn kc] w fun e w'=>(∃ v,e=.returned (.tuple #[v,.bool (ce t cost).isSome])/\OwnR w' w.heap.size v ((ce t cost).getD []))/\Ext w w':=by
 have hx0:=Ext.alloc w (bQ ra m rc ba m bc (n:Int));have HX0:=ae hx0;have H:=ae (h.ext hx0);have HTB:=ae (show (w.alloc (bQ ra m rc ba m bc (n:Int))).heap[w.heap.size]?=some (.cells #[.slice ra m rc,.slice ba m bc,.int .i64 (n:Int)] 83 (0,0)) from aj _ _ _ rfl);have HK0:=ae (hk.ext hx0);have hr1:=h.rows.hcap;have hr2:=h.rows.hmax;have hb1:=h.basis.hcap;have hb2:=h.basis.hmax;have hk1:=hk.hcap;have hk2:=hk.hmax;have HT:=ae hT;have HLK:=ae hk.hlen;have HKL:=ae hkl
 have HE:=ae (show ce t cost=cJ t cost m by
  unfold ce kW
  rw [if_pos (by rw [hT.ok hn,hT.cols,hT.len,hk.hlen,hv,hkl];simp),hT.len])
 have HVL:=ae (fun j (hj:j<kn)=>show valR (cost[j]?.getD (0,0))=true by
  have:j<cost.length:=by rw [hk.hlen];exact hj
  rw [List.getElem?_eq_getElem this];exact (List.all_eq_true.1 hv) _ (List.getElem_mem this))
 have HG:=ae (iZ H.out hT hn hm);have HAV:=ae hv;have hsum:(kn:Int)=(n:Int)+(m:Int):=by omega
 have hw1:IntKind.i64.wrap ((n:Int)+(m:Int))=(kn:Int):=by rw [IntKind.wrap_i64];omega
 have hkk:((kn:Int) != (kn:Int))=false:=by simp
 have HSUM:=ae hsum;clear h hT hx0 hk hkl hv hsum;go_enter Tryz.func267,Tryz.ntmps267
 go_upto_region 1 with fail;obtain ⟨W,hW⟩:∃ x,x=w.alloc (bQ ra m rc ba m bc (n:Int)):=⟨_,rfl⟩;rw [<-hW] at HX0 H HTB HG HK0;rw [<-hW];clear hW;have p0:=aq HTB.out;have p1:=aw HTB.out;have p2:=az HTB.out;go_wp2_with fail;refine HG.out.mono ?_;rintro e w1 ⟨rfl,hx⟩;have X1:=ae hx;clear hx p0 p1 p2;have p0:=aq (X1.out.blk HTB.out);have p2:=az (X1.out.blk HTB.out);have HCP:=ae (kJ (HK0.out.ext X1.out) (by have:=HKL.out;omega));go_wp2_with fail;refine HCP.out.mono ?_;rintro e w2 ⟨⟨v2,rfl,ho2⟩,hx⟩;obtain ⟨a2,n2,c2,rfl,HN2⟩:=ho2.var;have X2:=ae (X1.out.trans hx);have HO2:=ae ho2;have hs1:=X1.out.size;have hs12:=hx.size;clear ho2 hx p0 p2 hw1;go_wp2_with fail;refine (bJ 0 _).mono ?_;rintro e w3 ⟨rfl,hx⟩;have X3:=ae (X2.out.trans hx);have HO3:=ae (HO2.out.ext hx);have hs3:=hx.size;clear hx
 go_wp2_with (first
  | (at_builtin;refine aG rfl _ _ rfl w1.heap.size (.slice a2 n2 c2) _ rfl (HO3.out.ext (Ext.alloc _ _)) _ 1 _ [(0,1)] rfl (Rats.one' _ _ _ _ _ (by simp)) (by rw [HLK.out];have:=HKL.out;omega) (by simp;omega) ?_;intro v5 w5 ho hg hnear;have X5:=ae (ak (X3.out.trans (Ext.alloc _ _)) hg (fun j hj=>Nat.le_trans hs1 (HO3.out.lt j hj).1));obtain ⟨a5,n5,p5,rfl,HN5⟩:=ho.var;have HO5:=ae ho;clear ho hg hnear))
 have HAL:=ae (gN (HK0.out.ext X5.out));rw [HAV.out] at HAL;refine HAL.out.mono ?_;rintro e w6 ⟨rfl,hx⟩;have X6:=ae (X5.out.trans hx);have HO6:=ae (HO5.out.ext hx);clear hx;go_wp2_with fail
 go_loopg [6,7,8] m (fun gk oo fl ii wr=>∃ (k:Nat) (f:Bool) (a1:Option Addr) (n1 p1:Nat) (r:List (Int × Int)),Hid (gk+k=m)/\ii=.int .i64 (k:Int)/\oo=.slice a1 n1 p1/\fl=.bool f/\Hid (cJ t cost k=if f=true then some r else none)/\Hid (OwnR wr W.heap.size (.slice a1 n1 p1) r)/\Hid (Ext W wr))
 case atStart=>exact ⟨0,true,_,_,_,_,ae (by omega),rfl,rfl,rfl,ae rfl,ae (HO6.out.mono hs1),X6⟩
 case round =>
  obtain ⟨g1,h_g1⟩:∃ x,x=gk:=⟨_,rfl⟩;subst h_g1;obtain ⟨wr1,h_wr1⟩:∃ x,x=wr:=⟨_,rfl⟩;subst h_wr1;obtain ⟨k,f,a1,n1,q1,r,HK,rfl,rfl,rfl,HC,HO,HX⟩:=hrel;have hsr:=HX.out.size;have p0:=aq (HX.out.blk HTB.out);by_cases hlt:k<m
  ·cases f
   ·have HN:=ae (show ce t cost=none by rw [HE.out];exact kU HC.out (by omega));go_wp2_with fail
    go_ret2
    exact ⟨⟨_,eE (by rw [HN.out];rfl),by rw [HN.out];exact OwnR.made _ _ (by have:=HX0.out.size;omega)⟩,HX0.out.trans (HX.out.trans (Ext.alloc _ _))⟩
   ·have HCS:=ae (show cJ t cost k=some r from HC.out);have p1:=aw (HX.out.blk HTB.out);obtain ⟨zb,zoff,ya,yn,yc,hza,hz0,hrow⟩:=(H.out.ext HX.out).rows.at hlt;subst hza;obtain ⟨eb,eoff,hea,he0⟩:=(H.out.ext HX.out).basis.at hlt;subst hea;obtain ⟨b,hb⟩:∃ b:Nat,t.basis[k]?.getD 0=b:=by
     have:=HT.out.bas _ (List.getElem_mem (l:=t.basis) (n:=k) (by rw [HT.out.blen];exact hlt));exact ⟨(t.basis[k]?.getD 0).toNat,by rw [List.getElem?_eq_getElem (by rw [HT.out.blen];exact hlt)];simp;omega⟩
    have hbk:b<kn:=by
     have h1:=HT.out.bas _ (List.getElem_mem (l:=t.basis) (n:=k) (by rw [HT.out.blen];exact hlt));rw [List.getElem?_eq_getElem (by rw [HT.out.blen];exact hlt),Option.getD_some] at hb;rw [hb] at h1;have:=HKL.out;omega
    rw [hb] at he0;obtain ⟨cb,coff,c1,c2',hca,hcc,hc0,hc1⟩:=(HK0.out.ext HX.out).at hbk;subst hca;have hbd:=aU (HVL.out b hbk);rw [hcc] at hbd;have hw2:IntKind.i64.wrap (-c1)=-c1:=by rw [IntKind.wrap_i64];simp only at hbd;omega
    have HCG:=ae (show cJ t cost (k+1)=sclL r (-c1,c2') (t.row k) by rw [costN_go HCS.out,hb,Int.toNat_natCast,hcc];rfl);have HCL:=ae (jo HCS.out);have hn1:n1<=1048576:=by have h1:=HO.out.rats.hlen;rw [HCL.out,HLK.out] at h1;have:=HKL.out;omega
    have HSC:=ae (fun (wz:World) (hz:Ext wr1 wz)=>kl (k1:=-c1) (k2:=c2') (HO.out.ext hz).rats (show Rats wz ya yn yc (t.row k) from hrow.ext hz) hn1);obtain ⟨sv,hsv⟩:∃ s,s=sclL r (-c1,c2') (t.row k):=⟨_,rfl⟩;have HSV:=ae (show cJ t cost (k+1)=sv by rw [HCG.out,hsv]);simp only [<-hsv] at HSC;have hk0:(0:Int)<=(k:Int):=by omega
    have hk1':(k:Int)<(m:Int):=by omega
    have hb0':(0:Int)<=(b:Int):=by omega
    have hb1':(b:Int)<(kn:Int):=by omega
    clear hrow hbd hcc hsv hb;go_upto_region 8 with fail;have hk2':Ext wr1 wr1.drew:=Ext.drew wr1;have hk2:=hk2';clear hk2';have HKEEP:=ae (fun (w':World) (h:Ext wr1 w')=>(⟨h.cellSome p0,h.cellSome p1,h.cellSome hz0,h.cellSome he0,h.cellSome hc0,h.cellSome hc1,h⟩:w'.cell? ⟨w.heap.size,0,none⟩=some (.slice (some ⟨zb,zoff,none⟩) m rc)/\w'.cell? ⟨w.heap.size,1,none⟩=some (.slice (some ⟨eb,eoff,none⟩) m bc)/\w'.cell? ⟨zb,zoff+k,none⟩=some (.slice ya yn yc)/\w'.cell? ⟨eb,eoff+k,none⟩=some (.int .i64 (b:Int))/\w'.cell? ⟨cb,coff+b*2,none⟩=some (.int .i64 c1)/\w'.cell? ⟨cb,coff+b*2+1,none⟩=some (.int .i64 c2')/\Ext wr1 w'));refine wp_region_held_drew (S:=(fun w'=>w'.cell? ⟨w.heap.size,0,none⟩=some (.slice (some ⟨zb,zoff,none⟩) m rc)/\w'.cell? ⟨w.heap.size,1,none⟩=some (.slice (some ⟨eb,eoff,none⟩) m bc)/\w'.cell? ⟨zb,zoff+k,none⟩=some (.slice ya yn yc)/\w'.cell? ⟨eb,eoff+k,none⟩=some (.int .i64 (b:Int))/\w'.cell? ⟨cb,coff+b*2,none⟩=some (.int .i64 c1)/\w'.cell? ⟨cb,coff+b*2+1,none⟩=some (.int .i64 c2')/\Ext wr1 w')) (by kernel_rfl) ?_ (fun hHeld=>?_)
    ·exact HKEEP.out _ hk2
    refine tk 0 ?_;refine tk 1 ?_;refine tk 2 ?_;refine tk 3 ?_;refine tk 4 ?_;refine tk 5 ?_;refine tk 6 ?_;refine tk 7 ?_;refine tk 8 ?_;refine tk 9 ?_;refine tk 10 ?_;refine tk 11 ?_;refine tk 12 ?_;refine tk 13 ?_;refine tk 14 ?_;refine tk 15 ?_;refine tk 16 ?_;refine tk 17 ?_;refine tk 18 ?_;refine tk 19 ?_;refine tk 20 ?_;refine tk 21 ?_;refine tk 22 ?_;refine tk 23 ?_;refine tk 24 ?_;refine tk 25 ?_;refine rd (i:=26) (h:=fun K hK=>?_);go_simp
    (go_at_call 145;refine (HSC.out _ hk2).mono ?_;rintro e w3 ⟨⟨v3,rfl,ho3⟩,hx3⟩;have hs4:=hk2.size;have hk2:=hk2.trans hx3;obtain ⟨a3,n3,c3,rfl,HN3⟩:=ho3.var)
    go_wp2_with fail;refine hK.out _ _ ?_ (fun hHeld=>?_)
    ·exact HKEEP.out _ hk2
    clear hK K
    try simp only [Act.put,sA,sB,sC]
    refine tk 27 ?_;refine tk 28 ?_;refine tk 29 ?_;refine tk 30 ?_;refine tk 31 ?_;refine wpAnyH_done (by kernel_rfl) ?_ _;have HX2:=ae (HX.out.trans hk2);have HO4:=ae (ho3.mono (Nat.le_trans hsr hs4));clear hk2 ho3 p0 p1 hz0 he0 hc0 hc1 hw2;go_wp2_with fail
    go_roundg (g1-1)
    case measure=>have:=HK.out;omega
    case rel=>exact ⟨k+1,sv.isSome,a3,n3,c3,sv.getD [],ae (by have:=HK.out;omega),by go_num,rfl,rfl,ae (by rw [HSV.out];cases sv <;> rfl),HO4,HX2⟩
  ·have hkm:m=k:=by have:=HK.out;omega
   subst hkm;cases f
   ·have HN:=ae (show ce t cost=none by rw [HE.out];exact HC.out);go_wp2_with fail
    go_ret2
    exact ⟨⟨_,eE (by rw [HN.out];rfl),by rw [HN.out];exact OwnR.made _ _ (by have:=HX0.out.size;omega)⟩,HX0.out.trans (HX.out.trans (Ext.alloc _ _))⟩
   ·have HN:=ae (show ce t cost=some r by rw [HE.out];exact HC.out);go_wp2_with fail
    go_ret2
    exact ⟨⟨_,eE (by rw [HN.out];rfl),by rw [HN.out];exact HO.out.mono (by have:=HX0.out.size;omega)⟩,HX0.out.trans HX.out⟩
set_option maxHeartbeats 8000000 in
theorem pg (h:TbC w ra m rc ba m bc t) (hT:TInv n m T0 t) (hn:n<=1000) (hm:m<=1000) :
 Calls Tryz.prog 228 #[tbW ra m rc ba m bc (n:Int)] w fun e w'=>(∃ v,e=.returned v/\OwnR w' w.heap.size v (solT t))/\Ext w w':=by
 have hx0:=Ext.alloc w (bQ ra m rc ba m bc (n:Int));have HX0:=ae hx0;have H:=ae (h.ext hx0);have HTB:=ae (show (w.alloc (bQ ra m rc ba m bc (n:Int))).heap[w.heap.size]?=some (.cells #[.slice ra m rc,.slice ba m bc,.int .i64 (n:Int)] 83 (0,0)) from aj _ _ _ rfl);obtain ⟨W,hW⟩:∃ x,x=w.alloc (bQ ra m rc ba m bc (n:Int)):=⟨_,rfl⟩;have hsw:W.heap.size=w.heap.size+1:=by rw [hW];simp
 have HSW:=ae hsw;have hr1:=h.rows.hcap;have hr2:=h.rows.hmax;have hb1:=h.basis.hcap;have hb2:=h.basis.hmax;have HT:=ae hT;have HSO:=ae (show solT t=solN t m by unfold solT;rw [if_pos (hT.ok hn),hT.len]);have HS0:=ae (show solN t 0=List.replicate (n+m) (0,1) by simp only [solN];rw [hT.cols,hT.len];rfl);have HSL:=ae (fun k=>show (solN t k).length=n+m by rw [ia,hT.cols,hT.len];simp);have HO:=ae (OwnR.made W (w.heap.size+1) (by omega));have X0:=ae (Ext.alloc W (.cells #[] 43));rw [<-hW] at HX0 H HTB;rw [hsw] at HO;have HG:=ae (iZ (H.out.ext X0.out) hT hn hm);have hw1:IntKind.i64.wrap ((n:Int)+(m:Int))=(n:Int)+(m:Int):=by rw [IntKind.wrap_i64];omega
 clear h hT hx0 hsw;go_enter Tryz.func228,Tryz.ntmps228
 go_upto_region 1 with fail;rw [<-hW];clear hW;have hsw:=HSW.out;have p0:=aq (X0.out.blk HTB.out);have p1:=aw (X0.out.blk HTB.out);have p2:=az (X0.out.blk HTB.out);go_wp2_with fail;refine HG.out.mono ?_;rintro e w1 ⟨rfl,hx⟩;have X1:=ae (X0.out.trans hx);have HO1':=ae (HO.out.ext hx);clear hx p0 p1 p2;go_wp2_with fail
 go_loopg [3,4] (n+m) (fun gk oo ii wr=>∃ (k:Nat) (a1:Option Addr) (n1 p1:Nat),Hid (gk+k=n+m)/\ii=.int .i64 (k:Int)/\oo=.slice a1 n1 p1/\Hid (OwnR wr (w.heap.size+1) (.slice a1 n1 p1) (List.replicate k (0,1)))/\Hid (Ext W wr))
 case atStart=>exact ⟨0,_,_,_,ae (by omega),rfl,rfl,HO1',X1⟩
 case round =>
  obtain ⟨g1,h_g1⟩:∃ x,x=gk:=⟨_,rfl⟩;subst h_g1;obtain ⟨wr1,h_wr1⟩:∃ x,x=wr:=⟨_,rfl⟩;subst h_wr1;obtain ⟨k,a1,n1,q1,HK,rfl,rfl,HO1,HX⟩:=hrel;have p0:=aq (HX.out.blk HTB.out);have p2:=az (HX.out.blk HTB.out);have hsz:=HX.out.size;by_cases hlt:k<n+m
  ·have HLL:=ae (show (List.replicate k ((0:Int),(1:Int))).length=k by simp);have hltI:(k:Int)<(n:Int)+(m:Int):=by omega
   go_wp2_with fail;refine (bJ 0 _).mono ?_;rintro e w3 ⟨rfl,hx⟩;have X3:=ae (HX.out.trans hx);have HO3:=ae (HO1.out.ext hx);have hs3:=X3.out.size;clear hx p0 p2
   go_wp2_with (first
    | (at_builtin;refine aG rfl _ _ rfl (w.heap.size+1) (.slice a1 n1 q1) _ rfl (HO3.out.ext (Ext.alloc _ _)) _ 1 _ [(0,1)] rfl (Rats.one' _ _ _ _ _ (by simp)) (by rw [HLL.out];omega) (by simp;omega) ?_;intro v5 w5 ho hg hnear;have X5:=ae (ak (X3.out.trans (Ext.alloc _ _)) hg (fun j hj=>by have:=(HO3.out.lt j hj).1;omega));obtain ⟨a5,n5,p5,rfl,HN5⟩:=ho.var;have HO5:=ae ho;clear ho hg hnear))
   go_roundg (g1-1)
   case measure=>have:=HK.out;omega
   case rel=>exact ⟨k+1,a5,n5,p5,ae (by have:=HK.out;omega),by go_num,rfl,ae (by have:=HO5.out;rw [<-List.replicate_succ'] at this;exact this),X5⟩
  ·have hkm:k=n+m:=by have:=HK.out;omega
   have hltI:¬ (k:Int)<(n:Int)+(m:Int):=by omega
   have HKM:=ae hkm;have HO2:=ae (show OwnR wr1 (w.heap.size+1) (.slice a1 n1 q1) (solN t 0) by rw [HS0.out,<-hkm];exact HO1.out);clear hkm;go_wp2_with fail;clear p2 hltI
   go_loopg [5] m (fun gk ii wr=>∃ (k:Nat),Hid (gk+k=m)/\ii=.int .i64 (k:Int)/\Hid (OwnR wr (w.heap.size+1) (.slice a1 n1 q1) (solN t k))/\Hid (Ext W wr))
   case atStart=>exact ⟨0,ae (by omega),rfl,HO2,HX⟩
   case round =>
    obtain ⟨g2,h_g2⟩:∃ x,x=gk:=⟨_,rfl⟩;subst h_g2;obtain ⟨wr2,h_wr2⟩:∃ x,x=wr:=⟨_,rfl⟩;subst h_wr2;obtain ⟨j,HJ,rfl,HO4,HX4⟩:=hrel;clear p0;have p0:=aq (HX4.out.blk HTB.out);by_cases hjl:j<m
    ·have p1:=aw (HX4.out.blk HTB.out);have p2:=az (HX4.out.blk HTB.out);obtain ⟨zb,zoff,ya,yn,yc,hza,hz0,hrow⟩:=(H.out.ext HX4.out).rows.at hjl;subst hza;obtain ⟨u,hu⟩:∃ u,u=n+m:=⟨_,rfl⟩;have hyn:yn=u+1:=by rw [<-hrow.hlen,hu];exact (HT.out.row j hjl).1
     have HYN:=ae hyn;have hy1:=hrow.hcap;have hy2:=hrow.hmax;have hub:u<=200000:=by omega
     obtain ⟨yb,yoff,p,q,hya,hpq,hy0c,hy1c⟩:=hrow.at (show u<yn by omega);subst hya;have HPQ:=ae (show t.at j u=(p,q) from hpq);obtain ⟨b,hb⟩:∃ b:Nat,t.basis[j]?.getD 0=b:=by
      have:=HT.out.bas _ (List.getElem_mem (l:=t.basis) (n:=j) (by rw [HT.out.blen];exact hjl));exact ⟨(t.basis[j]?.getD 0).toNat,by rw [List.getElem?_eq_getElem (by rw [HT.out.blen];exact hjl)];simp;omega⟩
     have hbl:b<n+m:=by
      have h1:=HT.out.bas _ (List.getElem_mem (l:=t.basis) (n:=j) (by rw [HT.out.blen];exact hjl));rw [List.getElem?_eq_getElem (by rw [HT.out.blen];exact hjl),Option.getD_some] at hb;rw [hb] at h1;omega
     have HB:=ae hb;obtain ⟨eb,eoff,hea,he0⟩:=(H.out.ext HX4.out).basis.at hjl;subst hea;rw [hb] at he0;have hn1:n1=u:=by have:=HO4.out.rats.hlen;rw [HSL.out] at this;omega
     subst hn1;obtain ⟨G,hG,hbG,hfr,hGl⟩:=HO4.out.block (k:=b) (by omega);subst hG;obtain ⟨G',goff',g1v,g2v,hG',hgv,hg0,hg1⟩:=HO4.out.rats.at (show b<n1 by omega);simp only [Option.some.injEq,Addr.mk.injEq,and_true] at hG';obtain ⟨rfl,rfl⟩:=hG';rw [Nat.zero_add] at hg0 hg1;have hwu:IntKind.i64.wrap ((n:Int)+(m:Int))=(n1:Int):=by rw [IntKind.wrap_i64];omega
     have hu1:(n1:Int)<(yn:Int):=by have:=HYN.out;omega
     have hu0:(0:Int)<=(n1:Int):=by omega
     have hb0':(0:Int)<=(b:Int):=by omega
     have hb1':(b:Int)<(n1:Int):=by omega
     have hj0:(0:Int)<=(j:Int):=by omega
     have hj1:(j:Int)<(m:Int):=by omega
     have HU:=ae hu;clear hpq hrow hyn hb hgv hu hw1;go_upto_region 11 with fail
     go_still_tail 20,(by kernel_rfl)
     have HO5:=ae (show OwnR ((wr2.drew.setCell ⟨G,b*2,none⟩ (.int .i64 p)).setCell ⟨G,b*2+1,none⟩ (.int .i64 q)) (w.heap.size+1) (.slice (some ⟨G,0,none⟩) n1 q1) (solN t (j+1)) by
      have h1:=(HO4.out.ext (Ext.drew wr2)).set (k:=b) (by rw [HSL.out,<-HU.out];omega) p q;have h2:solN t (j+1)=(solN t j).set b (p,q):=by
       simp only [solN];rw [HB.out,Int.toNat_natCast,HT.out.cols,HT.out.len,Int.toNat_natCast,<-HU.out,HPQ.out]
      rw [h2];exact h1)
     have hGW:W.heap.size<=G:=by have:=HSW.out;omega
     have HX5:=ae (((HX4.out.trans (Ext.drew wr2)).setCell (p:=⟨G,b*2,none⟩) hGW (.int .i64 p)).setCell (p:=⟨G,b*2+1,none⟩) hGW (.int .i64 q));clear hwu;go_wp2_with fail
     go_roundg (g2-1)
     case measure=>have:=HJ.out;omega
     case rel=>exact ⟨j+1,ae (by have:=HJ.out;omega),by go_num,HO5,HX5⟩
    ·have hjm:m=j:=by have:=HJ.out;omega
     subst hjm;go_wp2_with fail;go_ret;exact ⟨⟨_,rfl,by rw [HSO.out];exact HO4.out.mono (by omega)⟩,HX0.out.trans HX4.out⟩
end
end Go.Proofs.YthjjfkeacobikaaGreat
namespace Go.Proofs.YthjjfkeacobikaaGreat
set_option maxRecDepth 100000
open Go.RowKit
section
variable {w:World} {a:Option Addr} {na ca:Nat} {b:Option Addr} {nb cb:Nat} {c:Option Addr} {nc cc:Nat} {A:List (List Int)} {B:List Int} {C:List (Int × Int)}
set_option maxHeartbeats 16000000 in
theorem mF (h:LpC w a na ca b nb cb c nc cc A B C) (ok:okLP A B C=true) :
 Calls Tryz.prog 160 #[lpW a na ca b nb cb c nc cc] w fun e w'=>(∃ va vb vs,e=.returned (.agg #[va,vb,.int .i64 (nc:Int)])/\OwnT w' w.heap.size va vb vs (bF A B nc))/\Ext w w':=by
 obtain ⟨r1,r2,r3,r4,r5,r6⟩:=cj h ok;subst r3;have hx0:=(Ext.alloc w (be a nb ca b nb cb c nc cc)).trans (Ext.alloc _ (.cells #[.slice none 0 0,.slice none 0 0,.int .i64 0] 83));obtain ⟨W,hW⟩:∃ W,W=(w.alloc (be a nb ca b nb cb c nc cc)).alloc (.cells #[.slice none 0 0,.slice none 0 0,.int .i64 0] 83):=⟨_,rfl⟩;rw [<-hW] at hx0;have HX0:=ae hx0;have H:=ae (h.ext hx0);have HV:=ae (dO H.out);rw [ok] at HV;have HGB:=ae (show W.heap[w.heap.size+1]?=some (.cells #[.slice none 0 0,.slice none 0 0,.int .i64 0] 83 (0,0)) by rw [hW];exact aj _ _ _ (by simp));have HTB:=ae (show W.heap[w.heap.size]?=some (.cells #[.slice a nb ca,.slice b nb cb,.slice c nc cc] 109 (0,0)) by rw [hW,bK _ _ _ (by simp)];exact aj _ _ _ rfl);have HSW:=ae (show W.heap.size=w.heap.size+1+1 by rw [hW];simp);have ha1:=h.a.hcap;have ha2:=h.a.hmax;have hb1:=h.b.hcap;have hb2:=h.b.hmax;have hc1:=h.c.hcap;have hc2:=h.c.hmax;have HLA:=ae h.a.hlen;have HLB:=ae h.b.hlen;have HR4:=ae r4;have HR5:=ae r5;have HR6:=ae r6;clear h hx0 ok r4 r5 r6;go_enter Tryz.func160,Tryz.ntmps160
 go_upto_region 1 with fail;rw [<-hW];clear hW;have p0:=aq HTB.out;have p1:=aw HTB.out;have p2:=az HTB.out;go_wp2_with fail;refine HV.out.mono ?_;rintro e w1 ⟨rfl,hx⟩;have X1:=ae hx;have H1:=ae (H.out.ext hx);clear hx p0 p1 p2;have P0:=ae (aq (X1.out.blk HTB.out));have P1:=ae (aw (X1.out.blk HTB.out));have P2:=ae (az (X1.out.blk HTB.out));have p2:=P2.out;have hs1:w.heap.size+1+1<=w1.heap.size:=by have:=X1.out.size;have:=HSW.out;omega
 obtain ⟨E,hE⟩:∃ E,E=w1.alloc (.cells #[.slice none 0 0,.slice none 0 0,.int .i64 (nc:Int)] 83):=⟨_,rfl⟩;have XE:=ae (show Ext w1 E by rw [hE];exact Ext.alloc _ _)
 have HT0:=ae (show TbO E w1.heap.size w1.heap.size (.slice none 0 0) (.slice none 0 0) (nc:Int) [] [] [] by
  rw [hE];exact ⟨aj _ _ _ rfl,Nat.le_refl _,World.ownsRow_nil _ _ _ 1,dh.nil _ _,OwnI.nil _ _⟩)
 go_upto_region 4 with fail;rw [<-hE];clear hE p2;have p0:=XE.out.cellSome P0.out;go_wp2_with fail
 go_loopg [4] nb (fun gk ii wr=>∃ (k:Nat) (va vb:Value) (vs:List Value),Hid (gk+k=nb)/\ii=.int .i64 (k:Int)/\Hid (TbO wr w1.heap.size w1.heap.size va vb (nc:Int) vs ((List.range k).map (cg A B)) ((List.range k).map fun i=>((nc+i:Nat):Int)))/\Hid (Ext w1 wr))
 case atStart=>exact ⟨0,_,_,_,ae (by omega),rfl,HT0,XE⟩
 case round =>
  obtain ⟨g1,h_g1⟩:∃ x,x=gk:=⟨_,rfl⟩;subst h_g1;obtain ⟨wr1,h_wr1⟩:∃ x,x=wr:=⟨_,rfl⟩;subst h_wr1;obtain ⟨k,va,vb,vs,HK,rfl,T,HX⟩:=hrel;clear p0;have p0:=HX.out.cellSome P0.out;have hsr:=HX.out.size;by_cases hlt:k<nb
  ·obtain ⟨zb,zoff,ya,yn,yc,hza,hz0,hrow⟩:=(H1.out.ext HX.out).a.at hlt;subst hza;obtain rfl:yn=nc:=by rw [<-hrow.hlen];exact HR4.out k hlt
   have hy1:=hrow.hcap;have hy2:=hrow.hmax;obtain ⟨eb,eoff,hea,he0⟩:=H1.out.b.at hlt;subst hea;obtain ⟨bk,hbk⟩:∃ x,x=B[k]?.getD 0:=⟨_,rfl⟩;rw [<-hbk] at he0;have HE0:=ae he0;have HZ0:=ae hz0;have HBK:=ae hbk;have hbb:-5000<=bk/\bk<=5000:=by
    rw [hbk,List.getElem?_eq_getElem (by rw [HLB.out];exact hlt)];exact HR6.out _ (List.getElem_mem _)
   obtain ⟨hbb0,hbb1⟩:=hbb;obtain ⟨sd,hsd⟩:∃ s,s=sideI bk:=⟨_,rfl⟩;have HSD:=ae hsd;have hsd0:(bk<0/\sd=-1) ∨ (¬ bk<0/\sd=1):=by rw [hsd];exact fc bk
   have hsb:-1<=sd/\sd<=1:=by omega
   obtain ⟨hsb0,hsb1⟩:=hsb;have p1:=HX.out.cellSome P1.out;have he1:=HX.out.cellSome HE0.out;have HROW:=ae hrow;clear hrow hbk hsd he0
   go_upto_if 29 with fail
   go_cut [5] (fun s6 wx=>s6=.int .i64 sd/\wr1=wx)
   case first =>
    rcases hsd0 with ⟨hneg,rfl⟩|⟨hneg,rfl⟩
    all_goals
     go_wp2_with fail;go_meet;exact ⟨rfl,rfl⟩
   obtain ⟨rfl,rfl⟩:=hcut;clear hsd0;have HO0:=ae (OwnR.made wr1 wr1.heap.size (Nat.le_refl _));go_wp2_with fail
   go_loopg [6,7] yn (fun gk oo ii wr=>∃ (j:Nat) (a1:Option Addr) (n1 q1:Nat),Hid (gk+j=yn)/\ii=.int .i64 (j:Int)/\oo=.slice a1 n1 q1/\Hid (OwnR wr wr1.heap.size (.slice a1 n1 q1) (((A[k]?.getD []).take j).map fun x=>(sd*x,(1:Int))))/\Hid (Ext wr1 wr))
   case atStart=>exact ⟨0,_,_,_,ae (by omega),rfl,rfl,HO0,ae (Ext.alloc _ _)⟩
   case round =>
    obtain ⟨g2,h_g2⟩:∃ x,x=gk:=⟨_,rfl⟩;subst h_g2;obtain ⟨wr2,h_wr2⟩:∃ x,x=wr:=⟨_,rfl⟩;subst h_wr2;obtain ⟨j,a1,n1,q1,HJ,rfl,rfl,HO1,HX1⟩:=hrel;clear p0 p1 he1 hz0;have p2:=(HX.out.trans HX1.out).cellSome P2.out;by_cases hjl:j<yn
    ·have p0:=(HX.out.trans HX1.out).cellSome P0.out;have hz0:=HX1.out.cellSome HZ0.out;obtain ⟨xb,xoff,hxa,hx0⟩:=(HROW.out.ext HX1.out).at hjl;subst hxa;obtain ⟨x,hx⟩:∃ x,x=(A[k]?.getD [])[j]?.getD 0:=⟨_,rfl⟩;rw [<-hx] at hx0;have HJL:=ae (show j<(A[k]?.getD []).length by rw [HR4.out k hlt];exact hjl);have hxb:-5000<=x/\x<=5000:=by
      rw [hx,List.getElem?_eq_getElem HJL.out];exact (HR5.out k hlt).2 _ (List.getElem_mem _)
     obtain ⟨hxb0,hxb1⟩:=hxb;have hm1:sd*x=x ∨ sd*x=-x ∨ sd*x=0:=by
      have:sd=-1 ∨ sd=0 ∨ sd=1:=by omega
      rcases this with h1|h1|h1 <;> subst h1 <;> omega
     have hm2:-5000<=sd*x/\sd*x<=5000:=by rcases hm1 with h1|h1|h1 <;> rw [h1] <;> omega
     obtain ⟨z,hz⟩:∃ z,z=sd*x:=⟨_,rfl⟩;have hwz2:wrap64 (sd*x)=z:=by rw [hz];unfold wrap64;omega
     have HSN:=ae (show ((A[k]?.getD []).take j).map (fun x=>(sd*x,(1:Int)))++[(z,1)]=((A[k]?.getD []).take (j+1)).map (fun x=>(sd*x,(1:Int))) by
      rw [hz,hx];exact oN (fun x=>(sd*x,(1:Int))) HJL.out)
     have HLL:=ae (show (((A[k]?.getD []).take j).map (fun x=>(sd*x,(1:Int)))).length=j by rw [List.length_map,List.length_take];have:=HJL.out;omega);clear hx hz hm1 hm2;go_wp2_with fail;rw [hwz2];clear hwz2;refine (bJ z _).mono ?_;rintro e w3 ⟨rfl,hx⟩;have X3:=ae (HX1.out.trans hx);have HO3:=ae (HO1.out.ext hx);have hs3:=X3.out.size;clear hx
     go_wp2_with (first
      | (at_builtin;refine aG rfl _ _ rfl wr1.heap.size (.slice a1 n1 q1) _ rfl (HO3.out.ext (Ext.alloc _ _)) _ 1 _ [(z,1)] rfl (Rats.one' _ _ _ _ _ (by simp)) (by rw [HLL.out];omega) (by simp;omega) ?_;intro v5 w5 ho hg hnear;have X5:=ae (ak (X3.out.trans (Ext.alloc _ _)) hg (fun j hj=>(HO3.out.lt j hj).1));obtain ⟨a5,n5,p5,rfl,HN5⟩:=ho.var;have HO5:=ae ho;clear ho hg hnear))
     go_roundg (g2-1)
     case measure=>have:=HJ.out;omega
     case rel=>exact ⟨j+1,a5,n5,p5,ae (by have:=HJ.out;omega),by go_num,rfl,ae (by rw [<-HSN.out];exact HO5.out),X5⟩
    ·have hjn:yn=j:=by have:=HJ.out;omega
     have HT2:=ae (show OwnR wr2 wr1.heap.size (.slice a1 n1 q1) ((A[k]?.getD []).map (fun x=>(sd*x,(1:Int)))) by
      have h1:=HO1.out
      rw [List.take_of_length_le (by rw [HR4.out k hlt];omega)] at h1;exact h1)
     have HLN:=ae (show ((A[k]?.getD []).map (fun x=>(sd*x,(1:Int)))).length=yn by rw [List.length_map];exact HR4.out k hlt);have p0:=(HX.out.trans HX1.out).cellSome P0.out;have HJN:=ae hjn;clear hjn;go_wp2_with fail
     go_loopg [6,8] nb (fun gk oo ii wr=>∃ (i:Nat) (a1:Option Addr) (n1 q1:Nat),Hid (gk+i=nb)/\ii=.int .i64 (i:Int)/\oo=.slice a1 n1 q1/\Hid (OwnR wr wr1.heap.size (.slice a1 n1 q1) ((A[k]?.getD []).map (fun x=>(sd*x,(1:Int)))++(List.range i).map fun i=>if i=k then ((1:Int),(1:Int)) else (0,1)))/\Hid (Ext wr1 wr))
     case atStart=>exact ⟨0,_,_,_,ae (by omega),rfl,rfl,ae (by simpa using HT2.out),HX1⟩
     case round =>
      obtain ⟨g3,h_g3⟩:∃ x,x=gk:=⟨_,rfl⟩;subst h_g3;obtain ⟨wr3,h_wr3⟩:∃ x,x=wr:=⟨_,rfl⟩;subst h_wr3;obtain ⟨i,a3,n3,q3,HI,rfl,rfl,HO3,HX3⟩:=hrel;clear p0 p2;have p0:=(HX.out.trans HX3.out).cellSome P0.out;by_cases hil:i<nb
      ·have HLL:=ae (show ((A[k]?.getD []).map (fun x=>(sd*x,(1:Int)))++(List.range i).map fun i=>if i=k then ((1:Int),(1:Int)) else (0,1)).length=yn+i by rw [List.length_append,HLN.out];simp);obtain ⟨un,hun⟩:∃ u:Int,u=if i=k then 1 else 0:=⟨_,rfl⟩
       have HSN:=ae (show (List.range i).map (fun i=>if i=k then ((1:Int),(1:Int)) else (0,1))++[(un,1)]=(List.range (i+1)).map fun i=>if i=k then ((1:Int),(1:Int)) else (0,1) by
        rw [<-cQ,hun];congr 2;split <;> rfl)
       have hik:((i:Int) == (k:Int))=decide (i=k):=by by_cases h:i=k <;> simp [h] <;> omega
       have HUN:=ae (show bitI (decide (i=k))=un by rw [hun];by_cases h:i=k <;> simp [h,bitI]);have HBT:=ae (fun w'=>fw (decide (i=k)) w');rw [HUN.out] at HBT;clear hun;go_wp2_with (first|(go_at_call 74;refine (HBT.out _).mono ?_;rintro e w2 ⟨rfl,rfl⟩));clear hik;refine (bJ un _).mono ?_;rintro e w3 ⟨rfl,hx⟩;have X3:=ae (HX3.out.trans hx);have HO4:=ae (HO3.out.ext hx);have hs3:=X3.out.size;clear hx
       go_wp2_with (first
        | (at_builtin;refine aG rfl _ _ rfl wr1.heap.size (.slice a3 n3 q3) _ rfl (HO4.out.ext (Ext.alloc _ _)) _ 1 _ [(un,1)] rfl (Rats.one' _ _ _ _ _ (by simp)) (by rw [HLL.out];omega) (by simp;omega) ?_;intro v5 w5 ho hg hnear;have X5:=ae (ak (X3.out.trans (Ext.alloc _ _)) hg (fun j hj=>(HO4.out.lt j hj).1));obtain ⟨a5,n5,p5,rfl,HN5⟩:=ho.var;have HO5:=ae ho;clear ho hg hnear))
       go_roundg (g3-1)
       case measure=>have:=HI.out;omega
       case rel=>exact ⟨i+1,a5,n5,p5,ae (by have:=HI.out;omega),by go_num,rfl,ae (by have:=HO5.out;rw [List.append_assoc,HSN.out] at this;exact this),X5⟩
      ·have hin:i=nb:=by have:=HI.out;omega
       subst hin;obtain ⟨z2,hz2⟩:∃ z,z=sd*bk:=⟨_,rfl⟩;have hm1:sd*bk=bk ∨ sd*bk=-bk ∨ sd*bk=0:=by
        have:sd=-1 ∨ sd=0 ∨ sd=1:=by omega
        rcases this with h1|h1|h1 <;> subst h1 <;> omega
       have hwr:IntKind.i64.wrap (sd*bk)=z2:=by
        rw [IntKind.wrap_i64,hz2];rcases hm1 with h1|h1|h1 <;> rw [h1] <;> omega
       have HRE:=ae (show ((A[k]?.getD []).map (fun x=>(sd*x,(1:Int)))++(List.range i).map fun i=>if i=k then ((1:Int),(1:Int)) else (0,1))++[(z2,1)]=cg A B k by
        unfold cg;rw [<-HBK.out,<-HSD.out,hz2,HLA.out,pA])
       have HLL:=ae (show ((A[k]?.getD []).map (fun x=>(sd*x,(1:Int)))++(List.range i).map fun i=>if i=k then ((1:Int),(1:Int)) else (0,1)).length=yn+i by rw [List.length_append,HLN.out];simp);have HVL:=ae (show vs.length=k by rw [T.out.rows.len];simp);have t0:=aq T.out.box;have p1:=HX.out.cellSome P1.out;have he1:=HX.out.cellSome HE0.out;have hk0:(0:Int)<=(k:Int):=by omega
       have hk1:(k:Int)<(i:Int):=by omega
       clear hz2 hm1;go_upto_region 19 with fail;have hk3:Ext wr3 wr3.drew:=Ext.drew wr3;have hk2:Ext wr1 wr3.drew:=HX3.out.trans hk3;have HKEEP:=ae (fun (w':World) (h:Ext wr1 w')=>(⟨h.cellSome t0,h.cellSome p1,h.cellSome he1,HX.out.trans h⟩:w'.cell? ⟨w1.heap.size,0,none⟩=some va/\w'.cell? ⟨w.heap.size,1,none⟩=some (.slice (some ⟨eb,eoff,none⟩) i cb)/\w'.cell? ⟨eb,eoff+k,none⟩=some (.int .i64 bk)/\Ext w1 w'));refine cz (M:=[16]) (S:=fun w'=>w'.cell? ⟨w1.heap.size,0,none⟩=some va/\w'.cell? ⟨w.heap.size,1,none⟩=some (.slice (some ⟨eb,eoff,none⟩) i cb)/\w'.cell? ⟨eb,eoff+k,none⟩=some (.int .i64 bk)/\Ext w1 w') (by kernel_rfl) ?_;have hHeld:=HKEEP.out _ hk2;refine lp 0 ?_;refine ll 1 ?_;refine lp 2 ?_;refine lp 3 ?_;refine lp 4 ?_;refine ll 5 ?_;refine lp 6 ?_;refine lp 7 ?_;refine ll 8 ?_;refine lp 9 ?_;refine aJ (i:=10) (oi:=?_) ?_ ?_ ?_ (fun K hK=>?_);rotate_left
       ·simp only [gA,gB,gC];rfl
       ·kernel_rfl
       ·kernel_rfl
       go_simp;go_at_call 86;refine (bJ _ _).mono ?_;rintro e w5 ⟨rfl,hx5⟩;have hk3:Ext wr3 w5:=hk3.trans hx5;have hk2:Ext wr1 w5:=hk2.trans hx5;have hs5:=hk2.size;go_wp2_with fail;refine hK.out _ _ (fun _=>HKEEP.out _ hk2) ?_;have hHeld:=HKEEP.out _ hk2;clear hK K
       try simp only [Act.put,sA,sB,sC]
       refine aJ (i:=11) (oi:=?_) ?_ ?_ ?_ (fun K hK=>?_);rotate_left
       ·simp only [gA,gB,gC];rfl
       ·kernel_rfl
       ·kernel_rfl
       go_simp;refine hK.out _ _ (fun _=>HKEEP.out _ (hk2.trans (Ext.alloc _ _))) ?_;clear hK K
       try simp only [Act.put,sA,sB,sC]
       refine aJ (i:=12) (oi:=?_) ?_ ?_ ?_ (fun K hK=>?_);rotate_left
       ·simp only [gA,gB,gC];rfl
       ·kernel_rfl
       ·kernel_rfl
       refine cH _ _ (by rfl) wr1.heap.size (.slice a3 n3 q3) _ (by rfl) ((HO3.out.ext hk3).ext (Ext.alloc _ _)) _ 1 _ [(z2,1)] (by rfl) (Rats.one' _ _ _ _ _ rfl) (by rw [HLL.out];omega) (by simp;omega) ?_;intro v6 w6 ho hg hnear;obtain ⟨a6,n6,q6,rfl,HN6⟩:=ho.var;have HO6:=ae ho;have hk6:Ext wr1 w6:=ak (hk2.trans (Ext.alloc _ _)) hg (fun j hj=>(HO3.out.lt j hj).1);have hs6:=hk6.size;clear ho hg hnear;refine hK.out _ _ (fun _=>HKEEP.out _ hk6) ?_;have hHeld:=HKEEP.out _ hk6;clear hK K
       try simp only [Act.put,sA,sB,sC]
       refine aJ (i:=13) (oi:=?_) ?_ ?_ ?_ (fun K hK=>?_);rotate_left
       ·simp only [gA,gB,gC];rfl
       ·kernel_rfl
       ·kernel_rfl
       go_simp;refine hK.out _ _ (fun _=>HKEEP.out _ (hk6.trans (Ext.alloc _ _))) ?_;clear hK K
       try simp only [Act.put,sA,sB,sC]
       refine aJ (i:=14) (oi:=?_) ?_ ?_ ?_ (fun K hK=>?_);rotate_left
       ·simp only [gA,gB,gC];rfl
       ·kernel_rfl
       ·kernel_rfl
       refine ez _ _ (by rfl) w1.heap.size va vs (by rfl) ((T.out.a.ext hk6).ext (Ext.alloc _ _)) _ _ 1 (by rfl) (by simp;rfl) rfl (by rw [HVL.out];omega) (by simp;omega) ?_;intro v7 w7 ho hg hnear;obtain ⟨a7,n7,q7,rfl,HN7⟩:=ho.var;have HO7:=ae ho;have HG7:=ae hg;have hbx:=T.out.boxA (hk6.trans (Ext.alloc _ _)) hg;have c07:=aq hbx;have cf7:=cU hbx;have hX7:Ext w1 w7:=ak ((HX.out.trans hk6).trans (Ext.alloc _ _)) hg (fun j hj=>(T.out.a.lt j hj).1);clear ho hg hnear hbx;refine hK.out _ _ (fun _=>And.intro c07 (And.intro (hX7.cellSome P1.out) (And.intro (hX7.cellSome HE0.out) hX7))) ?_;have hHeld:=And.intro c07 (And.intro (hX7.cellSome P1.out) (And.intro (hX7.cellSome HE0.out) hX7));clear hK K
       try simp only [Act.put,sA,sB,sC]
       refine lp 15 ?_;refine cV (i:=16) (oi:=?_) (w':=?_) ?_ ?_ ?_ ?_ ?_ ?_ ?_;rotate_left 2
       ·simp only [gA,gB,gC];rfl
       ·kernel_rfl
       ·kernel_rfl
       ·exact of_decide_eq_true (by kernel_rfl)
       ·rfl
       ·go_simp;(try with_reducible rfl)
       try simp only [Act.put,sA,sB,sC]
       refine cW (by kernel_rfl) ?_ _;have HT8:=ae (T.out.pushA (hk6.trans (Ext.alloc _ _)) (HO6.out.ext (Ext.alloc _ _)) hsr HG7.out HO7.out);have HX8:=ae (hX7.setCell (p:=⟨w1.heap.size,0,none⟩) (Nat.le_refl _) (.slice a7 n7 q7));obtain ⟨W8,hW8⟩:∃ x,x=w7.setCell ⟨w1.heap.size,0,none⟩ (.slice a7 n7 q7):=⟨_,rfl⟩;rw [<-hW8] at HT8 HX8;go_upto_region 20 with fail;rw [<-hW8];clear hW8 c07 cf7 hHeld;have b1:=aw HT8.out.box;have p2:=Ext.cellSome HX8.out P2.out;have bf:=cU HT8.out.box;have hl8:=lt_of_block HT8.out.box;have HVB:=ae (show ((List.range k).map fun i=>((yn+i:Nat):Int)).length=k by simp)
       go_wp2_with (first
        | (at_builtin;refine bm rfl _ _ rfl w1.heap.size vb _ rfl (HT8.out.b.ext (Ext.alloc _ _)) _ 1 _ [(yn:Int)+(k:Int)] rfl (Ints.oneS _ _ _ _ (by simp)) (by rw [HVB.out];omega) (by simp;omega) ?_;intro v9 w9 ho hg hnear;obtain ⟨a9,n9,q9,rfl,HN9⟩:=ho.var;have HO9:=ae ho;have HG9:=ae hg;have hbx:=HT8.out.boxB (Ext.alloc _ _) hg;have c09:=aw hbx;have cf9:=cU hbx;have hX9:Ext w1 w9:=ak (Ext.trans HX8.out (Ext.alloc _ _)) hg (fun j hj=>(HT8.out.b.lt j hj).1);clear ho hg hnear hbx))
       have HT9:=ae (HT8.out.pushB (Ext.alloc _ _) HG9.out HO9.out);have HXN:=ae (hX9.setCell (p:=⟨w1.heap.size,1,none⟩) (Nat.le_refl _) (.slice a9 n9 q9))
       go_roundg (g1-1)
       case measure=>have:=HK.out;omega
       case rel=>exact ⟨k+1,_,_,_,ae (by have:=HK.out;omega),by go_num,ae (by
        have h1:=HT9.out;rw [HRE.out,cQ] at h1;have h2:((List.range k).map fun i=>((yn+i:Nat):Int))++[(yn:Int)+(k:Int)]=(List.range (k+1)).map fun i=>((yn+i:Nat):Int):=by
         rw [<-cQ];simp
        rw [h2] at h1
        exact h1),HXN⟩
  ·have hkn:nb=k:=by have:=HK.out;omega
   subst hkn;have HTN:=ae (show OwnT wr1 w1.heap.size va vb vs (bF A B nc) by have:=T.out.own;unfold bF;rw [HLA.out];exact this);have t0:=aq T.out.box;have t1:=aw T.out.box;have t2:=az T.out.box;obtain ⟨a7,n7,c7,rfl,HN7⟩:=T.out.a.var;obtain ⟨a8,n8,c8,rfl,HN8⟩:=T.out.b.var;have xw:=X1.out.trans HX.out;have r0:=aq (xw.blk HGB.out);have r1:=aw (xw.blk HGB.out);have r2:=az (xw.blk HGB.out);have rf:=cU (xw.blk HGB.out);have XW:=ae xw;clear xw;go_wp2_with fail;refine bodyPost_ret (v:=.agg #[.slice a7 n7 c7,.slice a8 n8 c8,.int .i64 (nc:Int)]) (by simp [results,Tryz.results160,go_sem,r0,r1,r2,rf]) rfl ⟨⟨_,_,vs,rfl,?_⟩,(HX0.out.trans XW.out).set3 (Nat.le_succ _) _ _ _⟩;exact (HTN.out.keepAll fun k hk=>cG _ _ _ _ _ _ (by omega)).mono (by omega)
end
end Go.Proofs.YthjjfkeacobikaaGreat
namespace Go.Proofs.YthjjfkeacobikaaGreat
set_option maxRecDepth 100000
open Go.RowKit
section
variable {w:World} {ra:Option Addr} {rc:Nat} {ba:Option Addr} {bc:Nat} {t:Tb} {n m:Nat} {T0:Nat->Nat->Rat}
set_option maxHeartbeats 16000000 in
theorem s_l6Copy (h:TbC w ra m rc ba m bc t) (hm:m<=1000) (hcols:t.cols=n) (hrl:∀ i,i<m->(t.row i).length<=1048576) :
 Calls Tryz.prog 143 #[tbW ra m rc ba m bc (n:Int)] w fun e w'=>(∃ va vb vs,e=.returned (.agg #[va,vb,.int .i64 (n:Int)])/\OwnT w' w.heap.size va vb vs t)/\Ext w w':=by
 have hx0:=(Ext.alloc w (bQ ra m rc ba m bc (n:Int))).trans (Ext.alloc _ (.cells #[.slice none 0 0,.slice none 0 0,.int .i64 0] 83));obtain ⟨W,hW⟩:∃ W,W=(w.alloc (bQ ra m rc ba m bc (n:Int))).alloc (.cells #[.slice none 0 0,.slice none 0 0,.int .i64 0] 83):=⟨_,rfl⟩;rw [<-hW] at hx0;have HX0:=ae hx0;have H:=ae (h.ext hx0);have hr1:=h.rows.hcap;have hr2:=h.rows.hmax;have HLR:=ae (show t.rows.length=m from h.rows.hlen);have HLB:=ae (show t.basis.length=m from h.basis.hlen);have HCM:=ae hcols;have HRL:=ae hrl;have HTB:=ae (show W.heap[w.heap.size]?=some (.cells #[.slice ra m rc,.slice ba m bc,.int .i64 (n:Int)] 83 (0,0)) by rw [hW,bK _ _ _ (by simp)];exact aj _ _ _ rfl);have HGB:=ae (show W.heap[w.heap.size+1]?=some (.cells #[.slice none 0 0,.slice none 0 0,.int .i64 0] 83 (0,0)) by rw [hW];exact aj _ _ _ (by simp));have HSW:=ae (show W.heap.size=w.heap.size+1+1 by rw [hW];simp);have p1:=aw HTB.out;have p2:=az HTB.out;clear h hx0 hrl hcols;go_enter Tryz.func143,Tryz.ntmps143
 go_upto_region 1 with fail;rw [<-hW];clear hW
 go_cut [3] (fun s wx=>∃ (g:Nat) (a3:Option Addr) (n3 c3:Nat),s=.pointer (some ⟨g,0,none⟩)/\Hid (TbO wx W.heap.size g (.slice none 0 0) (.slice a3 n3 c3) (n:Int) [] [] t.basis)/\Hid (Ext W wx))
 case first =>
  have hk2:Ext W W.drew:=Ext.drew W;have HKEEP:=ae (fun (w':World) (h:Ext W w')=>(⟨h.cellSome p1,h.cellSome p2,h⟩:(fun w'=>w'.cell? ⟨w.heap.size,1,none⟩=some (.slice ba m bc)/\w'.cell? ⟨w.heap.size,2,none⟩=some (.int .i64 (n:Int))/\Ext W w') w'));refine wp_region_held_drew (S:=(fun w'=>w'.cell? ⟨w.heap.size,1,none⟩=some (.slice ba m bc)/\w'.cell? ⟨w.heap.size,2,none⟩=some (.int .i64 (n:Int))/\Ext W w')) (by kernel_rfl) ?_ (fun hHeld=>?_)
  ·exact HKEEP.out _ hk2
  refine tk 1 ?_;refine tk 2 ?_;refine tk 4 ?_;refine tk 5 ?_;refine wpAnyH_ready (rs:=[0,7]) (by kernel_rfl) (by simp) ?_;refine AllReadyH.cons (o:=?_) ?_ (fun K hK=>?_) ?_;rotate_left
  ·simp only [gA,gB,gC];rfl
  ·
   have hk2:Ext W (W.alloc (.cells #[] 3)).drew:=(Ext.alloc _ _).trans (Ext.drew _);have HOI:=ae ((OwnI.madeS W W.heap.size W.heap.size rfl (Nat.le_refl _)).ext (Ext.drew _));go_simp;refine hK.out _ _ ?_ (fun hHeld=>?_)
   ·exact HKEEP.out _ hk2
   clear hK K
   try simp only [Act.put,sA,sB,sC]
   obtain ⟨gi,hgi⟩:∃ g,g=W.heap.size:=⟨_,rfl⟩;obtain ⟨W1,hW1⟩:∃ x,x=(W.alloc (.cells #[] 3)).drew:=⟨_,rfl⟩;rw [<-hW1] at hk2 HOI;rw [show (Value.slice (some ⟨W.heap.size,0,none⟩) 0 0)=Value.slice (some ⟨gi,0,none⟩) 0 0 by rw [hgi]] at HOI;rw [<-hW1,<-hgi];clear hW1 hgi hHeld;refine wpAnyH_ready (rs:=[3,7]) (by kernel_rfl) (by simp) ?_;refine AllReadyH.cons (o:=?_) ?_ (fun K hK=>?_) ?_;rotate_left
   ·simp only [gA,gB,gC];rfl
   ·
    refine bU _ (by rfl) ?_;refine bX _ _ (by rfl) W.heap.size (.slice (some ⟨gi,0,none⟩) 0 0) [] (by rfl) HOI.out ba m bc t.basis (by rfl) (H.out.ext hk2).basis (by simp;omega) hk2.size ?_;intro v3 w3 ho3 hg3 hn3;obtain ⟨a3,n3,c3,rfl,HN3⟩:=ho3.var;have HO3:=ae (show OwnI w3 W.heap.size (.slice a3 n3 c3) t.basis by simpa using ho3);have hx3:=Ext.grown hk2 hg3 (fun j hj=>(HOI.out.lt j hj).1);go_wp2_with fail;refine hK.out _ _ ?_ (fun hHeld=>?_)
    ·exact HKEEP.out _ hx3
    clear hK K
    try simp only [Act.put,sA,sB,sC]
    have hk2:=hx3;refine tk 6 ?_;have hgt':=hk2.size;have hk2:=hk2.trans (Ext.alloc w3 (.cells #[.slice none 0 0,.slice none 0 0,.int .i64 0] 83));have HBX:=ae (show (w3.alloc (.cells #[.slice none 0 0,.slice none 0 0,.int .i64 0] 83)).heap[w3.heap.size]?=some (.cells #[.slice none 0 0,.slice none 0 0,.int .i64 0] 83 (0,0)) from heap_alloc_new w3 _);refine rd (i:=7) (h:=fun K hK=>?_);go_simp;refine hK.out _ _ ?_ (fun hHeld=>?_)
    ·exact HKEEP.out _ hk2
    clear hK K
    try simp only [Act.put,sA,sB,sC]
    obtain ⟨gt,hgt0⟩:∃ g,g=w3.heap.size:=⟨_,rfl⟩;obtain ⟨W9,hW9⟩:∃ x,x=w3.alloc (.cells #[.slice none 0 0,.slice none 0 0,.int .i64 0] 83):=⟨_,rfl⟩;have HK9:=ae (show Ext w3 W9 by rw [hW9];exact Ext.alloc _ _);rw [<-hW9] at hk2;rw [<-hW9,<-hgt0] at HBX;rw [<-hW9,<-hgt0];have hgt:W.heap.size<=gt:=by rw [hgt0];exact hgt'
    clear hW9 hgt0 hHeld hgt';have HO3:=ae (HO3.out.ext HK9.out);have b0_:=aq HBX.out;have b1_:=aw HBX.out;have b2_:=az HBX.out;have bf_:=cU HBX.out;refine rd (i:=8) (h:=fun K hK=>?_);go_simp;refine hK.out _ _ ?_ (fun hHeld=>?_)
    ·exact HKEEP.out _ (Ext.set3 hk2 hgt _ _ _)
    clear hK K
    try simp only [Act.put,sA,sB,sC]
    refine wpAnyH_done (by kernel_rfl) ?_ _;go_wp2_with fail;go_meet;exact ⟨gt,a3,n3,c3,rfl,ae (TbO.put3 HBX.out HO3.out (Nat.le_refl _) hgt),ae (Ext.set3 hk2 hgt _ _ _)⟩
   refine AllReadyH.cons (o:=?_) ?_ (fun K hK=>?_) AllReadyH.nil;rotate_left
   ·simp only [gA,gB,gC];rfl
   have hgt':=hk2.size;have hk2:=hk2.trans (Ext.alloc W1 (.cells #[.slice none 0 0,.slice none 0 0,.int .i64 0] 83));have HBX:=ae (show (W1.alloc (.cells #[.slice none 0 0,.slice none 0 0,.int .i64 0] 83)).heap[W1.heap.size]?=some (.cells #[.slice none 0 0,.slice none 0 0,.int .i64 0] 83 (0,0)) from heap_alloc_new W1 _);go_simp;refine hK.out _ _ ?_ (fun hHeld=>?_)
   ·exact HKEEP.out _ hk2
   clear hK K
   try simp only [Act.put,sA,sB,sC]
   obtain ⟨gt,hgt0⟩:∃ g,g=W1.heap.size:=⟨_,rfl⟩;obtain ⟨W9,hW9⟩:∃ x,x=W1.alloc (.cells #[.slice none 0 0,.slice none 0 0,.int .i64 0] 83):=⟨_,rfl⟩;have HK9:=ae (show Ext W1 W9 by rw [hW9];exact Ext.alloc _ _);rw [<-hW9] at hk2;rw [<-hW9,<-hgt0] at HBX;rw [<-hW9,<-hgt0];have hgt:W.heap.size<=gt:=by rw [hgt0];exact hgt'
   clear hW9 hgt0 hHeld hgt';have HOI:=ae (HOI.out.ext HK9.out);refine rd (i:=3) (h:=fun K hK=>?_);refine bU _ (by rfl) ?_;refine bX _ _ (by rfl) W.heap.size (.slice (some ⟨gi,0,none⟩) 0 0) [] (by rfl) HOI.out ba m bc t.basis (by rfl) (H.out.ext hk2).basis (by simp;omega) hk2.size ?_;intro v3 w3 ho3 hg3 hn3;obtain ⟨a3,n3,c3,rfl,HN3⟩:=ho3.var;have HO3:=ae (show OwnI w3 W.heap.size (.slice a3 n3 c3) t.basis by simpa using ho3);have hx3:=Ext.grown hk2 hg3 (fun j hj=>(HOI.out.lt j hj).1);have HBX:=ae ((hg3.block gt (lt_of_block HBX.out) (ap HOI.out HBX.out (by decide))).trans HBX.out);go_wp2_with fail;refine hK.out _ _ ?_ (fun hHeld=>?_)
   ·exact HKEEP.out _ hx3
   clear hK K
   try simp only [Act.put,sA,sB,sC]
   have hk2:=hx3;refine tk 6 ?_;have b0_:=aq HBX.out;have b1_:=aw HBX.out;have b2_:=az HBX.out;have bf_:=cU HBX.out;refine rd (i:=8) (h:=fun K hK=>?_);go_simp;refine hK.out _ _ ?_ (fun hHeld=>?_)
   ·exact HKEEP.out _ (Ext.set3 hk2 hgt _ _ _)
   clear hK K
   try simp only [Act.put,sA,sB,sC]
   refine wpAnyH_done (by kernel_rfl) ?_ _;go_wp2_with fail;go_meet;exact ⟨gt,a3,n3,c3,rfl,ae (TbO.put3 HBX.out HO3.out (Nat.le_refl _) hgt),ae (Ext.set3 hk2 hgt _ _ _)⟩
  refine AllReadyH.cons (o:=?_) ?_ (fun K hK=>?_) AllReadyH.nil;rotate_left
  ·simp only [gA,gB,gC];rfl
  have hk2:Ext W (W.alloc (.cells #[.slice none 0 0,.slice none 0 0,.int .i64 0] 83)).drew:=(Ext.alloc _ _).trans (Ext.drew _);have HBX:=ae (show (W.alloc (.cells #[.slice none 0 0,.slice none 0 0,.int .i64 0] 83)).drew.heap[W.heap.size]?=some (.cells #[.slice none 0 0,.slice none 0 0,.int .i64 0] 83 (0,0)) from heap_alloc_new W _);go_simp;refine hK.out _ _ ?_ (fun hHeld=>?_)
  ·exact HKEEP.out _ hk2
  clear hK K
  try simp only [Act.put,sA,sB,sC]
  obtain ⟨gt,hgt0⟩:∃ g,g=W.heap.size:=⟨_,rfl⟩;obtain ⟨W1,hW1⟩:∃ x,x=(W.alloc (.cells #[.slice none 0 0,.slice none 0 0,.int .i64 0] 83)).drew:=⟨_,rfl⟩;rw [<-hW1] at hk2;rw [<-hW1,<-hgt0] at HBX;rw [<-hW1,<-hgt0];have hgt:W.heap.size<=gt:=Nat.le_of_eq hgt0.symm;clear hW1 hgt0 hHeld;have HOI:=ae (OwnI.madeS W1 W.heap.size W1.heap.size rfl hk2.size);have hk2:=hk2.trans (Ext.alloc W1 (.cells #[] 3));refine rd (i:=0) (h:=fun K hK=>?_);go_simp;refine hK.out _ _ ?_ (fun hHeld=>?_)
  ·exact HKEEP.out _ hk2
  clear hK K
  try simp only [Act.put,sA,sB,sC]
  obtain ⟨gi,hgi⟩:∃ g,g=W1.heap.size:=⟨_,rfl⟩;obtain ⟨W2,hW2⟩:∃ x,x=W1.alloc (.cells #[] 3):=⟨_,rfl⟩;rw [<-hW2] at hk2 HOI;rw [show (Value.slice (some ⟨W1.heap.size,0,none⟩) 0 0)=Value.slice (some ⟨gi,0,none⟩) 0 0 by rw [hgi]] at HOI;have HBX:=ae (show W2.heap[gt]?=some (.cells #[.slice none 0 0,.slice none 0 0,.int .i64 0] 83 (0,0)) by rw [hW2];exact (Ext.alloc W1 (.cells #[] 3)).blk HBX.out);rw [<-hW2,<-hgi];clear hW2 hgi hHeld;refine rd (i:=3) (h:=fun K hK=>?_);refine bU _ (by rfl) ?_;refine bX _ _ (by rfl) W.heap.size (.slice (some ⟨gi,0,none⟩) 0 0) [] (by rfl) HOI.out ba m bc t.basis (by rfl) (H.out.ext hk2).basis (by simp;omega) hk2.size ?_;intro v3 w3 ho3 hg3 hn3;obtain ⟨a3,n3,c3,rfl,HN3⟩:=ho3.var;have HO3:=ae (show OwnI w3 W.heap.size (.slice a3 n3 c3) t.basis by simpa using ho3);have hx3:=Ext.grown hk2 hg3 (fun j hj=>(HOI.out.lt j hj).1);have HBX:=ae ((hg3.block gt (lt_of_block HBX.out) (ap HOI.out HBX.out (by decide))).trans HBX.out);go_wp2_with fail;refine hK.out _ _ ?_ (fun hHeld=>?_)
  ·exact HKEEP.out _ hx3
  clear hK K
  try simp only [Act.put,sA,sB,sC]
  have hk2:=hx3;refine tk 6 ?_;have b0_:=aq HBX.out;have b1_:=aw HBX.out;have b2_:=az HBX.out;have bf_:=cU HBX.out;refine rd (i:=8) (h:=fun K hK=>?_);go_simp;refine hK.out _ _ ?_ (fun hHeld=>?_)
  ·exact HKEEP.out _ (Ext.set3 hk2 hgt _ _ _)
  clear hK K
  try simp only [Act.put,sA,sB,sC]
  refine wpAnyH_done (by kernel_rfl) ?_ _;go_wp2_with fail;go_meet;exact ⟨gt,a3,n3,c3,rfl,ae (TbO.put3 HBX.out HO3.out (Nat.le_refl _) hgt),ae (Ext.set3 hk2 hgt _ _ _)⟩
 obtain ⟨g,a3,n3,c3,rfl,HT,HX1⟩:=hcut;clear p1 p2;go_wp2_with fail
 go_loopg [4] m (fun gk ii wr=>∃ (k:Nat) (va:Value) (vs:List Value),Hid (gk+k=m)/\ii=.int .i64 (k:Int)/\Hid (TbO wr W.heap.size g va (.slice a3 n3 c3) (n:Int) vs (t.rows.take k) t.basis)/\Hid (Ext W wr))
 case atStart=>exact ⟨0,_,_,ae (by omega),rfl,HT,HX1⟩
 case round =>
  obtain ⟨g1,h_g1⟩:∃ x,x=gk:=⟨_,rfl⟩;subst h_g1;obtain ⟨wr1,h_wr1⟩:∃ x,x=wr:=⟨_,rfl⟩;subst h_wr1;obtain ⟨k,va,vs,HK,rfl,T,HX⟩:=hrel;have p0:=aq (HX.out.blk HTB.out);by_cases hlt:k<m
  ·obtain ⟨zb,zoff,za,zn,zc,hza,hz0,hrow⟩:=(H.out.ext HX.out).rows.at hlt;subst hza;have hzn:zn<=1048576:=by rw [<-hrow.hlen];exact HRL.out k hlt
   have HROW:=ae hrow;have t0:=aq T.out.box;have hgl:=T.out.lt;have hsx:=HX.out.size;have HVL:=ae (show vs.length=k by rw [T.out.rows.len,List.length_take];have h2:=HLR.out;omega);have hk0:(0:Int)<=(k:Int):=by omega
   have hk1:(k:Int)<(m:Int):=by omega
   have P0:=ae p0;obtain ⟨zb',zoff',za',zn',zc',hza',hzW,hroww⟩:=H.out.rows.at hlt;simp only [Option.some.injEq,Addr.mk.injEq,and_true] at hza';obtain ⟨rfl,rfl⟩:=hza';have hzz:=hz0.symm.trans (HX.out.cellSome hzW);simp only [Option.some.injEq,Value.slice.injEq] at hzz;obtain ⟨rfl,rfl,rfl⟩:=hzz;have Hzz:=ae (fun (w':World) (hx:Ext W w')=>hx.cellSome hzW);clear hroww hzW;clear hrow;go_upto_region 5 with fail;have hk3:Ext wr1 wr1.drew:=Ext.drew wr1;have HKEEP:=ae (fun (w':World) (h:Ext wr1 w')=>(⟨h.cellSome t0,h.cellSome p0,h.cellSome hz0,HX.out.trans h⟩:w'.cell? ⟨g,0,none⟩=some va/\w'.cell? ⟨w.heap.size,0,none⟩=some (.slice (some ⟨zb,zoff,none⟩) m rc)/\w'.cell? ⟨zb,zoff+k,none⟩=some (.slice za zn zc)/\Ext W w'));refine cz (M:=[11]) (S:=fun w'=>w'.cell? ⟨g,0,none⟩=some va/\w'.cell? ⟨w.heap.size,0,none⟩=some (.slice (some ⟨zb,zoff,none⟩) m rc)/\w'.cell? ⟨zb,zoff+k,none⟩=some (.slice za zn zc)/\Ext W w') (by kernel_rfl) ?_;have hHeld:=HKEEP.out _ hk3;refine lp 0 ?_;refine ll 1 ?_;refine lp 2 ?_;refine ll 3 ?_;refine lp 4 ?_;refine lp 5 ?_;refine ll 6 ?_;refine aJ (i:=7) (oi:=?_) ?_ ?_ ?_ (fun K hK=>?_);rotate_left
   ·simp only [gA,gB,gC];rfl
   ·kernel_rfl
   ·kernel_rfl
   go_simp;go_at_call 163;refine (kJ (HROW.out.ext hk3) (by omega)).mono ?_;rintro e w5 ⟨⟨v5,rfl,ho5⟩,hx5⟩;have HS5:=ae hk3.size;have hk3:Ext wr1 w5:=hk3.trans hx5;obtain ⟨a5,n5,c5,rfl,HN5⟩:=ho5.var;have HO5:=ae (show OwnR w5 wr1.heap.size (.slice a5 n5 c5) _ from ho5.mono HS5.out);have hs5:=hk3.size;clear ho5;go_wp2_with fail;refine hK.out _ _ (fun _=>HKEEP.out _ hk3) ?_;have hHeld:=HKEEP.out _ hk3;clear hK K
   try simp only [Act.put,sA,sB,sC]
   refine aJ (i:=8) (oi:=?_) ?_ ?_ ?_ (fun K hK=>?_);rotate_left
   ·simp only [gA,gB,gC];rfl
   ·kernel_rfl
   ·kernel_rfl
   go_simp;refine hK.out _ _ (fun _=>HKEEP.out _ (hk3.trans (Ext.alloc _ _))) ?_;clear hK K
   try simp only [Act.put,sA,sB,sC]
   refine aJ (i:=9) (oi:=?_) ?_ ?_ ?_ (fun K hK=>?_);rotate_left
   ·simp only [gA,gB,gC];rfl
   ·kernel_rfl
   ·kernel_rfl
   refine ez _ _ (by rfl) W.heap.size va vs (by rfl) ((T.out.a.ext hk3).ext (Ext.alloc _ _)) _ _ 1 (by rfl) (by simp;rfl) rfl (by rw [HVL.out];omega) (by simp;omega) ?_;intro v7 w7 ho hg hnear;obtain ⟨a7,n7,q7,rfl,HN7⟩:=ho.var;have HO7:=ae ho;have HG7:=ae hg;have hbx:=T.out.boxA (hk3.trans (Ext.alloc _ _)) hg;have c07:=aq hbx;have cf7:=cU hbx;have hX7:Ext W w7:=ak ((HX.out.trans hk3).trans (Ext.alloc _ _)) hg (fun j hj=>(T.out.a.lt j hj).1);have hZ7:=ae (show w7.cell? ⟨zb,zoff+k,none⟩=some (.slice za zn zc) from Hzz.out _ hX7);clear ho hg hnear hbx;refine hK.out _ _ (fun _=>And.intro c07 (And.intro (Ext.cellSome hX7 (aq HTB.out)) (And.intro hZ7.out hX7))) ?_;have hHeld:=And.intro c07 (And.intro (Ext.cellSome hX7 (aq HTB.out)) (And.intro hZ7.out hX7));clear hK K
   try simp only [Act.put,sA,sB,sC]
   refine lp 10 ?_;refine cV (i:=11) (oi:=?_) (w':=?_) ?_ ?_ ?_ ?_ ?_ ?_ ?_;rotate_left 2
   ·simp only [gA,gB,gC];rfl
   ·kernel_rfl
   ·kernel_rfl
   ·exact of_decide_eq_true (by kernel_rfl)
   ·rfl
   ·go_simp;(try with_reducible rfl)
   try simp only [Act.put,sA,sB,sC]
   refine cW (by kernel_rfl) ?_ _;have HTN:=ae (T.out.pushA (hk3.trans (Ext.alloc _ _)) (HO5.out.ext (Ext.alloc _ _)) hsx HG7.out HO7.out);have HXN:=ae (hX7.setCell (p:=⟨g,0,none⟩) T.out.hg (.slice a7 n7 q7));go_wp2_with fail
   go_roundg (g1-1)
   case measure=>have:=HK.out;omega
   case rel=>exact ⟨k+1,_,_,ae (by have:=HK.out;omega),by go_num,ae (by have:=HTN.out;rw [<-eW (by have h2:=HLR.out;omega)] at this;exact this),HXN⟩
  ·have hkn:m=k:=by have:=HK.out;omega
   subst hkn;have HTT:=ae (show t.rows.take m=t.rows from List.take_of_length_le (Nat.le_of_eq HLR.out))
   have HTN:=ae (show OwnT wr1 W.heap.size va (.slice a3 n3 c3) vs t by
    have h1:=T.out.own
    rw [HTT.out,<-HCM.out] at h1;exact h1)
   have t0:=aq T.out.box;have t1:=aw T.out.box;have t2:=az T.out.box;obtain ⟨a7,n7,c7,rfl,HN7⟩:=T.out.a.var;have q0:=HX.out.blk HGB.out;have r0:=aq q0;have r1:=aw q0;have r2:=az q0;have rf:=cU q0;have hww:=HSW.out;have hsx:=HX.out.size;clear q0;go_wp2_with fail;refine bodyPost_ret (v:=.agg #[.slice a7 n7 c7,.slice a3 n3 c3,.int .i64 (n:Int)]) (by simp [results,Tryz.results143,go_sem,r0,r1,r2,rf]) rfl ⟨⟨_,_,vs,rfl,?_⟩,?_⟩
   ·exact (HTN.out.keepAll fun k hk=>cG _ _ _ _ _ _ (by omega)).mono (by omega)
   ·exact (HX0.out.trans HX.out).set3 (Nat.le_succ _) _ _ _
end
end Go.Proofs.YthjjfkeacobikaaGreat
