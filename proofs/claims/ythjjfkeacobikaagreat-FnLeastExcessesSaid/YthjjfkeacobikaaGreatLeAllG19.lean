import Derived.Test.YthjjfkeacobikaaGreatLeAllG18
import Derived.Test.YthjjfkeacobikaaGreatLeAllG4
import Derived.StillTailTactics
import Derived.Outline
set_option linter.unusedVariables false
set_option linter.unusedSimpArgs false
namespace Go.Proofs.YthjjfkeacobikaaGreat
set_option maxRecDepth 100000
open Go.RowKit
def updB (st cc bi bb:Int):Bool:=decide (st<0)||(decide (cc<0)||(decide (cc=0)&&decide (bi<bb)))
theorem oI {t:Tb} {c:Nat} {st:Int × (Int × Int)} {k:Nat} {p:Int × Int} (hp:t.at k c=p) (h:cmpR p (0,1)<=0):dt t c st k=st:=by
 unfold dt;rw [hp,if_pos h]
theorem oJ {t:Tb} {c:Nat} {st:Int × (Int × Int)} {k u:Nat} {p q:Int × Int} (hu:u=t.cols.toNat+t.rows.length) (hp:t.at k c=p) (hq:t.at k u=q) (h:¬ cmpR p (0,1)<=0) (hd:(divR q p).2=false):dt t c st k=st:=by
 unfold dt;rw [hp,if_neg h,<-hu,hq,if_pos hd]
theorem oK {t:Tb} {c:Nat} {st:Int} {l:Int × Int} {k u:Nat} {p q d:Int × Int} (hu:u=t.cols.toNat+t.rows.length) (hp:t.at k c=p) (hq:t.at k u=q) (h:¬ cmpR p (0,1)<=0) (hd:divR q p=(d,true)) {bi bb:Int} (hb:t.basis[k]?.getD 0=bi) (hbb:t.basis[st.toNat]?.getD 0=bb) :
 dt t c (st,l) k=if updB st (cmpR d l) bi bb=true then ((k:Int),d) else (st,l):=by
 unfold dt;rw [hp,if_neg h,<-hu,hq,hd,if_neg (by simp)];simp only [hb,hbb,updB,Bool.or_eq_true,Bool.and_eq_true,decide_eq_true_eq]
theorem io (t:Tb) (c:Nat):∀ k,(bL t c k).1=-1 ∨ (0<=(bL t c k).1/\(bL t c k).1<k)
 | 0=>.inl rfl
 | k+1=>by
   have ih:=io t c k
   show (dt t c (bL t c k) k).1=-1 ∨ (0<=(dt t c (bL t c k) k).1/\(dt t c (bL t c k) k).1<((k+1:Nat):Int));unfold dt
   split
   ·omega
   ·split
    ·omega
    ·split
     ·right;simp;omega
     ·omega
section
variable {w:World} {ra:Option Addr} {rn rc:Nat} {ba:Option Addr} {bn bc:Nat} {t:Tb}
set_option maxHeartbeats 16000000 in
theorem oz (h:TbC w ra rn rc ba bn bc t) (hrn:rn<=100000) (col:Int) :
 Calls Tryz.prog 279 #[tbW ra rn rc ba bn bc t.cols,.int .i64 col] w fun e w'=>e=.returned (.int .i64 (cq t col))/\Ext w w':=by
 have HF:=ae (gZ (h.ext (Ext.alloc w (bQ ra rn rc ba bn bc t.cols))) (by omega));have HTP:=ae (fun ok=>fK h ok);obtain ⟨rows,basis,x⟩:=t;have hx0:=Ext.alloc w (bQ ra rn rc ba bn bc x);have HX0:=ae hx0;have H:=ae (h.ext hx0);have hr1:=h.rows.hcap;have hr2:=h.rows.hmax;have hb1:=h.basis.hcap;have hb2:=h.basis.hmax;have HLR:=ae h.rows.hlen
 have HE:=ae (show cq ⟨rows,basis,x⟩ col=if (tbOk ⟨rows,basis,x⟩&&inB col 0 (x+(rn:Int)-1))=true then (bL ⟨rows,basis,x⟩ col.toNat rn).1 else -1 by
  unfold cq;simp only;rw [h.rows.hlen])
 clear h hx0
 show Calls _ _ #[tbW ra rn rc ba bn bc x,.int .i64 col] w _;cases hok:tbOk ⟨rows,basis,x⟩
 ·rw [hok] at HF;have HN:=ae (show cq ⟨rows,basis,x⟩ col=-1 by rw [HE.out,hok];rfl);clear hok;go_enter Tryz.func279,Tryz.ntmps279
  go_wp2_with fail;refine HF.out.mono ?_;rintro e w1 ⟨rfl,hx⟩;have X1:=ae (HX0.out.trans hx);clear hx;go_wp2_with fail;go_ret;exact ⟨aQ HN.out.symm,X1.out⟩
 ·rw [hok] at HF;obtain ⟨m,hxm,hm,hbr,HRL,HBS⟩:=HTP.out hok;simp only at hxm;subst hxm hbr;have hre:=ae hok;replace HRL:=ae HRL;replace HBS:=ae HBS;clear hok;have HIW:=ae (fun w=>aX col 0 ((m:Int)+(bn:Int)-1) w);cases hin:inB col 0 ((m:Int)+(bn:Int)-1)
  ·have HN:=ae (show cq ⟨rows,basis,(m:Int)⟩ col=-1 by rw [HE.out,hin];simp);simp only [hin] at HIW;clear hin;go_enter Tryz.func279,Tryz.ntmps279
   go_wp2_with fail;refine HF.out.mono ?_;rintro e w1 ⟨rfl,hx⟩;have c0:w1.cell? ⟨w.heap.size,0,none⟩=some (.slice ra bn rc):=hx.cellSome (by simp);have c2:w1.cell? ⟨w.heap.size,2,none⟩=some (.int .i64 (m:Int)):=hx.cellSome (by simp);have X1:=ae (HX0.out.trans hx);clear hx;go_wp2_with fail;refine (HIW.out _).mono ?_;rintro e w2 ⟨rfl,rfl⟩;go_wp2_with fail;go_ret;exact ⟨aQ HN.out.symm,X1.out⟩
  ·obtain ⟨c,rfl⟩:∃ c:Nat,col=c:=⟨col.toNat,by simp [inB] at hin;omega⟩;have hc:c<m+bn:=by simp [inB] at hin;omega
   have HR:=ae (show cq ⟨rows,basis,(m:Int)⟩ (c:Int)=(bL ⟨rows,basis,(m:Int)⟩ c bn).1 by rw [HE.out,hre.out,hin];simp);simp only [hin] at HIW;clear hin;obtain ⟨u,hu⟩:∃ u,u=m+bn:=⟨_,rfl⟩;have HU:=ae (show u=(Tb.mk rows basis (m:Int)).cols.toNat+(Tb.mk rows basis (m:Int)).rows.length by show u=Int.toNat (m:Int)+rows.length;rw [show rows.length=bn from HLR.out];omega);have HUM:=ae hu;have hcu:c<u:=by omega
   have hub:u<=200000:=by omega
   clear hu;go_enter Tryz.func279,Tryz.ntmps279
   go_wp2_with fail;refine HF.out.mono ?_;rintro e w1 ⟨rfl,hx⟩;have c0:w1.cell? ⟨w.heap.size,0,none⟩=some (.slice ra bn rc):=hx.cellSome (by simp);have c1:w1.cell? ⟨w.heap.size,1,none⟩=some (.slice ba bn bc):=hx.cellSome (by simp);have c2:w1.cell? ⟨w.heap.size,2,none⟩=some (.int .i64 (m:Int)):=hx.cellSome (by simp);have C1:=ae c1;have X1:=ae (HX0.out.trans hx);have H1:=ae (H.out.ext hx);have hs1:w.heap.size<w1.heap.size:=by have:=hx.size;simp at this;omega
   clear hx c1;go_wp2_with fail;refine (HIW.out _).mono ?_;rintro e w2 ⟨rfl,rfl⟩;have HB0:=ae (ah.new (Ext.refl w1) 0 0);go_wp2_with fail
   go_loopg [5,30] bn (fun gk bst ii wr=>∃ (k:Nat) (st l1 l2:Int),Hid (gk+k=bn)/\ii=.int .i64 (k:Int)/\bst=.int .i64 st/\Hid (bL ⟨rows,basis,(m:Int)⟩ c k=(st,(l1,l2)))/\Hid (ah w1 wr w1.heap.size l1 l2))
   case atStart=>exact ⟨0,-1,0,0,ae (by omega),rfl,rfl,ae rfl,HB0⟩
   case round =>
    obtain ⟨g1,h_g1⟩:∃ x,x=gk:=⟨_,rfl⟩;subst h_g1;obtain ⟨wr1,h_wr1⟩:∃ x,x=wr:=⟨_,rfl⟩;subst h_wr1;obtain ⟨k,st,l1,l2,HK,rfl,rfl,HL,HB⟩:=hrel;clear c0 c2;by_cases hlt:k<bn
    ·obtain ⟨zb,zoff,za,zn,zc,hza,hz0,hrow⟩:=(H1.out.ext HB.out.ext).rows.at hlt;subst hza;have hzn:zn=u+1:=by rw [<-hrow.hlen,HUM.out];exact HRL.out k hlt
     have HZN:=ae hzn;have hrc:=hrow.hcap;have hrm:=hrow.hmax;have HROW:=ae hrow;obtain ⟨yb,yoff,p,q,hya,hpq,hy0,hy1⟩:=hrow.at (show c<zn by omega);subst hya;have HPQ:=ae (show Tb.at ⟨rows,basis,(m:Int)⟩ k c=(p,q) from hpq);have HS:=ae (i_sign p q wr1);obtain ⟨sg,hsg⟩:∃ s,s=cmpR (p,q) (0,1):=⟨_,rfl⟩;have HSG:=ae hsg;rw [<-hsg] at HS;have hcz:c<zn:=by omega
     clear hpq hsg hrow hzn;by_cases hs0:sg<=0
     ·have HST:=ae (show bL ⟨rows,basis,(m:Int)⟩ c (k+1)=(st,(l1,l2)) by
       show dt _ c (bL _ c k) k=_
       rw [HL.out];exact oI HPQ.out (by rw [<-HSG.out];exact hs0))
      go_wp2_with fail;refine HS.out.mono ?_;rintro e w3 ⟨rfl,hx⟩;have HB3:=ae (HB.out.grow hx);clear hx;go_wp2_with fail
      go_roundg (g1-1)
      case measure=>have:=HK.out;omega
      case rel=>exact ⟨k+1,st,l1,l2,ae (by have:=HK.out;omega),by go_num,rfl,HST,HB3⟩
     ·have HS0:=ae hs0;go_wp2_with fail;refine HS.out.mono ?_;rintro e w3 ⟨rfl,hx⟩;have HB3:=ae (HB.out.grow hx);replace hy0:=hx.cellSome hy0;replace hy1:=hx.cellSome hy1;obtain ⟨ub,uoff,p',q',hua,hpq',hv0,hv1⟩:=(HROW.out.ext hx).at (show u<zn by have:=HZN.out;omega);simp only [Option.some.injEq,Addr.mk.injEq,and_true] at hua;obtain ⟨rfl,rfl⟩:=hua;have HQQ:=ae (show Tb.at ⟨rows,basis,(m:Int)⟩ k u=(p',q') from hpq');obtain ⟨d1,d2,dok,hdd⟩:∃ x y ok,divR (p',q') (p,q)=((x,y),ok):=⟨_,_,_,rfl⟩;have HDD:=ae hdd;clear hpq' hdd hx hz0;have hwr:IntKind.i64.wrap ((zn:Int)-1)=(u:Int):=by have:=HZN.out;rw [IntKind.wrap_i64];omega
      have hu0:(0:Int)<=(u:Int):=by omega
      have hu1:(u:Int)<(zn:Int):=by have:=HZN.out;omega
      have hc0:(0:Int)<=(c:Int):=by omega
      have hc1:(c:Int)<(zn:Int):=by omega
      go_upto_region 9 with fail
      go_cut [9,10] (fun sx so wx=>∃ g:Nat,sx=.pointer (some ⟨g,0,none⟩)/\so=.bool dok/\Hid (ah w3 wx g d1 d2))
      case first =>
       have hk2:Ext w3 w3.drew:=Ext.drew w3;have hka:Ext w3 (w3.alloc (.cells #[.int .i64 0,.int .i64 0] 43)).drew:=(Ext.alloc _ _).trans (Ext.drew _);have HKEEP:=ae (fun (w':World) (h:Ext w3 w')=>(⟨h.cellSome hy0,h.cellSome hy1,h.cellSome hv0,h.cellSome hv1,h⟩:w'.cell? ⟨yb,yoff+c*2,none⟩=some (.int .i64 p)/\w'.cell? ⟨yb,yoff+c*2+1,none⟩=some (.int .i64 q)/\w'.cell? ⟨yb,yoff+u*2,none⟩=some (.int .i64 p')/\w'.cell? ⟨yb,yoff+u*2+1,none⟩=some (.int .i64 q')/\Ext w3 w'))
       go_region_held3 (fun w'=>w'.cell? ⟨yb,yoff+c*2,none⟩=some (.int .i64 p)/\w'.cell? ⟨yb,yoff+c*2+1,none⟩=some (.int .i64 q)/\w'.cell? ⟨yb,yoff+u*2,none⟩=some (.int .i64 p')/\w'.cell? ⟨yb,yoff+u*2+1,none⟩=some (.int .i64 q')/\Ext w3 w')
        (first
          | with_reducible exact HKEEP.out _ hk2
          | with_reducible exact HKEEP.out _ hka
          | with_reducible exact HKEEP.out _ ((hk2.setCell (by first|(simp;done)|(simp;omega)) _).setCell (by first|(simp;done)|(simp;omega)) _)
          | with_reducible exact HKEEP.out _ (hk2.trans (Ext.alloc _ _))
          | with_reducible exact HKEEP.out _ (hBB.put _ _).ext)
        (first
          | (go_at_call 113
             (with_reducible refine (ov p' q' p q _).mono ?_)
             rw [HDD.out];rintro e w5 ⟨rfl,hx_w5⟩
             first|(with_reducible have hBB:=ah.grow hBB hx_w5)|(with_reducible have hBB:=ah.firstD hx_w5)|(with_reducible have hBB:=ah.laterD hk2 hx_w5)|skip
             first|(have b0_:=hBB.c0;have b1_:=hBB.c1;have fb_:=hBB.free)|skip
             have hk2:Ext w3 w5:=by first|with_reducible exact hk2.trans hx_w5|with_reducible exact hka.trans hx_w5|with_reducible exact (hk2.trans (Ext.alloc _ _)).trans hx_w5
             have hk2s:=hk2.size)
          | fail)
       all_goals (go_wp2_with fail;go_meet;first|exact ⟨_,rfl,rfl,ae (hBB.put _ _)⟩|exact ⟨_,rfl,rfl,ae (ah.new hk2 _ _)⟩|exact ⟨_,rfl,rfl,ae (ah.new' hk2 _ _ (by simp))⟩)
      obtain ⟨g,rfl,rfl,HB1⟩:=hcut;clear hwr hu0 hu1 hc0 hc1 hy0 hy1 hv0 hv1;have HB4:=ae (HB3.out.grow HB1.out.ext);cases dok
      ·have HST:=ae (show bL ⟨rows,basis,(m:Int)⟩ c (k+1)=(st,(l1,l2)) by
        show dt _ c (bL _ c k) k=_
        rw [HL.out];exact oJ HU.out HPQ.out HQQ.out (by rw [<-HSG.out];have:=HS0.out;omega) (by rw [HDD.out]))
       go_wp2_with fail
       go_roundg (g1-1)
       case measure=>have:=HK.out;omega
       case rel=>exact ⟨k+1,st,l1,l2,ae (by have:=HK.out;omega),by go_num,rfl,HST,HB4⟩
      ·have g0:=HB1.out.c0;have g1':=HB1.out.c1;have b0:=HB4.out.c0;have b1:=HB4.out.c1;have HCM:=ae (gY d1 d2 l1 l2 wc);obtain ⟨cc,hcc⟩:∃ s,s=cmpR (d1,d2) (l1,l2):=⟨_,rfl⟩;have HCC:=ae hcc;rw [<-hcc] at HCM;clear hcc;go_wp2_with fail;refine HCM.out.mono ?_;rintro e w6 ⟨rfl,hx⟩;have HB6:=ae (HB4.out.grow hx);have HG6:=ae (HB1.out.grow hx);clear hx g0 g1' b0 b1;have c1:=HB6.out.ext.cellSome C1.out;obtain ⟨eb,eoff,hea,he0⟩:=(H1.out.ext HB6.out.ext).basis.at hlt;subst hea;obtain ⟨bi,hbi⟩:∃ b,b=basis[k]?.getD 0:=⟨_,rfl⟩;have HBI:=ae hbi;rw [<-hbi] at he0;clear hbi;have HBD:=ae (io ⟨rows,basis,(m:Int)⟩ c k);have hk0:(0:Int)<=(k:Int):=by omega
       have hk1:(k:Int)<(bn:Int):=by omega
       have HUP:=ae (fun bb (hbb:basis[st.toNat]?.getD 0=bb)=>show bL ⟨rows,basis,(m:Int)⟩ c (k+1)=if updB st cc bi bb=true then ((k:Int),(d1,d2)) else (st,(l1,l2)) by
        show dt _ c (bL _ c k) k=_;rw [HL.out,HCC.out]
        exact oK HU.out HPQ.out HQQ.out (by rw [<-HSG.out];have:=HS0.out;omega) HDD.out HBI.out.symm hbb)
       go_upto_region 12 with fail
       go_cut [82] (fun s82 wx=>∃ bb:Int,s82=.bool (updB st cc bi bb)/\Hid (basis[st.toNat]?.getD 0=bb)/\Hid (Ext w6 wx))
       case first =>
        have hk2:Ext w6 w6.drew:=Ext.drew w6;by_cases hst:st<0
        ·have hd0:decide (st<0)=true:=decide_eq_true hst;refine wp_region_held_drew (S:=(fun w'=>w'.cell? ⟨w.heap.size,1,none⟩=some (.slice (some ⟨eb,eoff,none⟩) bn bc)/\w'.cell? ⟨eb,eoff+k,none⟩=some (.int .i64 bi)/\Ext w6 w')) (by kernel_rfl) ?_ (fun hHeld=>?_)
         ·exact ⟨hk2.cellSome c1,hk2.cellSome he0,hk2⟩
         refine tk 0 ?_;refine tk 1 ?_;refine tk 2 ?_;refine sk 3 ?_;refine sk 4 ?_;refine tk 5 ?_;refine tk 6 ?_;refine sk 7 ?_;refine sk 8 ?_;refine sk 9 ?_;refine sk 10 ?_;refine sk 11 ?_;refine sk 12 ?_;refine sk 13 ?_;refine sk 14 ?_;refine sk 15 ?_;refine sk 16 ?_;refine sk 17 ?_;refine sk 18 ?_;refine sk 19 ?_;refine sk 20 ?_;refine sk 21 ?_;refine tk 22 ?_;refine wpAnyH_done (by kernel_rfl) ?_ _;go_wp2_with fail;go_meet;exact ⟨_,by unfold updB;rw [hd0];rfl,ae rfl,ae hk2⟩
        ·have hd0:decide (st<0)=false:=decide_eq_false (by omega);obtain ⟨sn,rfl⟩:∃ sn:Nat,st=sn:=⟨st.toNat,by omega⟩;have hsn:sn<bn:=by have:=HBD.out;rw [HL.out] at this;simp only at this;omega
         obtain ⟨fb,foff,hfa,hf0⟩:=(H1.out.ext HB6.out.ext).basis.at hsn;simp only [Option.some.injEq,Addr.mk.injEq,and_true] at hfa;obtain ⟨rfl,rfl⟩:=hfa;obtain ⟨bb,hbb⟩:∃ b,b=basis[sn]?.getD 0:=⟨_,rfl⟩;have HBB:=ae (show basis[Int.toNat (sn:Int)]?.getD 0=bb by rw [Int.toNat_natCast,hbb]);rw [<-hbb] at hf0;have hs0':(0:Int)<=(sn:Int):=by omega
         have hs1':(sn:Int)<(bn:Int):=by omega
         clear hbb;by_cases hcc:cc<0
         ·have hd1:decide (cc<0)=true:=decide_eq_true hcc;refine wp_region_held_drew (S:=(fun w'=>w'.cell? ⟨w.heap.size,1,none⟩=some (.slice (some ⟨eb,eoff,none⟩) bn bc)/\w'.cell? ⟨eb,eoff+k,none⟩=some (.int .i64 bi)/\Ext w6 w')) (by kernel_rfl) ?_ (fun hHeld=>?_)
          ·exact ⟨hk2.cellSome c1,hk2.cellSome he0,hk2⟩
          refine tk 0 ?_;refine tk 1 ?_;refine tk 2 ?_;refine tk 3 ?_;refine tk 4 ?_;refine tk 5 ?_;refine tk 6 ?_;refine sk 7 ?_;refine sk 8 ?_;refine sk 9 ?_;refine sk 10 ?_;refine sk 11 ?_;refine sk 12 ?_;refine sk 13 ?_;refine sk 14 ?_;refine sk 15 ?_;refine sk 16 ?_;refine sk 17 ?_;refine sk 18 ?_;refine sk 19 ?_;refine sk 20 ?_;refine sk 21 ?_;refine tk 22 ?_;refine wpAnyH_done (by kernel_rfl) ?_ _;go_wp2_with fail;go_meet;exact ⟨bb,by unfold updB;rw [hd0,hd1];rfl,HBB,ae hk2⟩
         ·have hd1:decide (cc<0)=false:=decide_eq_false (by omega);by_cases hc0:cc=0
          ·subst hc0;refine wp_region_held_drew (S:=(fun w'=>w'.cell? ⟨w.heap.size,1,none⟩=some (.slice (some ⟨eb,eoff,none⟩) bn bc)/\w'.cell? ⟨eb,eoff+k,none⟩=some (.int .i64 bi)/\w'.cell? ⟨eb,eoff+sn,none⟩=some (.int .i64 bb)/\Ext w6 w')) (by kernel_rfl) ?_ (fun hHeld=>?_)
           ·exact ⟨hk2.cellSome c1,hk2.cellSome he0,hk2.cellSome hf0,hk2⟩
           refine tk 0 ?_;refine tk 1 ?_;refine tk 2 ?_;refine tk 3 ?_;refine tk 4 ?_;refine tk 5 ?_;refine tk 6 ?_;refine tk 7 ?_;refine tk 8 ?_;refine tk 9 ?_;refine tk 10 ?_;refine tk 11 ?_;refine tk 12 ?_;refine tk 13 ?_;refine tk 14 ?_;refine tk 15 ?_;refine tk 16 ?_;refine tk 17 ?_;refine tk 18 ?_;refine tk 19 ?_;refine tk 20 ?_;refine tk 21 ?_;refine tk 22 ?_;refine wpAnyH_done (by kernel_rfl) ?_ _;go_wp2_with fail;go_meet;exact ⟨bb,by unfold updB;rw [hd0];rfl,HBB,ae hk2⟩
          ·have hd2:(cc == 0)=false:=by simp;omega
           refine wp_region_held_drew (S:=(fun w'=>w'.cell? ⟨w.heap.size,1,none⟩=some (.slice (some ⟨eb,eoff,none⟩) bn bc)/\w'.cell? ⟨eb,eoff+k,none⟩=some (.int .i64 bi)/\Ext w6 w')) (by kernel_rfl) ?_ (fun hHeld=>?_)
           ·exact ⟨hk2.cellSome c1,hk2.cellSome he0,hk2⟩
           refine tk 0 ?_;refine tk 1 ?_;refine tk 2 ?_;refine tk 3 ?_;refine tk 4 ?_;refine tk 5 ?_;refine tk 6 ?_;refine tk 7 ?_;refine tk 8 ?_;refine tk 9 ?_;refine sk 10 ?_;refine sk 11 ?_;refine sk 12 ?_;refine sk 13 ?_;refine sk 14 ?_;refine sk 15 ?_;refine sk 16 ?_;refine sk 17 ?_;refine sk 18 ?_;refine sk 19 ?_;refine sk 20 ?_;refine tk 21 ?_;refine tk 22 ?_;refine wpAnyH_done (by kernel_rfl) ?_ _;go_wp2_with fail;go_meet;exact ⟨bb,by unfold updB;rw [hd0,hd1,decide_eq_false hc0];rfl,HBB,ae hk2⟩
       obtain ⟨bb,rfl,HBB,HX7⟩:=hcut;have HB7:=ae (HB6.out.grow HX7.out);have HG7:=ae (HG6.out.grow HX7.out);have HU2:=ae (HUP.out bb HBB.out);clear c1 he0;cases hub2:updB st cc bi bb
       ·have HST:=ae (show bL ⟨rows,basis,(m:Int)⟩ c (k+1)=(st,(l1,l2)) by rw [HU2.out,hub2];rfl);go_wp2_with fail
        go_roundg (g1-1)
        case measure=>have:=HK.out;omega
        case rel=>exact ⟨k+1,st,l1,l2,ae (by have:=HK.out;omega),by go_num,rfl,HST,HB7⟩
       ·have HST:=ae (show bL ⟨rows,basis,(m:Int)⟩ c (k+1)=((k:Int),(d1,d2)) by rw [HU2.out,hub2];rfl);have g0:=HG7.out.c0;have g1':=HG7.out.c1;have b0:=HB7.out.c0;have b1:=HB7.out.c1;have bf:=HB7.out.free;have HB8:=ae ((HB7.out.grow (Ext.drew wc)).put d1 d2);go_upto_region 13 with fail
        go_still_tail 3,(by kernel_rfl)
        go_wp2_with fail
        go_roundg (g1-1)
        case measure=>have:=HK.out;omega
        case rel=>exact ⟨k+1,(k:Int),d1,d2,ae (by have:=HK.out;omega),by go_num,rfl,HST,HB8⟩
    ·have hkn:bn=k:=by have:=HK.out;omega
     subst hkn;have HY:=ae (show cq ⟨rows,basis,(m:Int)⟩ (c:Int)=st by rw [HR.out,HL.out]);go_wp2_with fail;go_ret;exact ⟨aQ HY.out.symm,X1.out.trans HB.out.ext⟩
end
end Go.Proofs.YthjjfkeacobikaaGreat
namespace Go.Proofs.YthjjfkeacobikaaGreat
set_option maxRecDepth 100000
open Go.RowKit
theorem RMat.inrow {w:World} {base G N cap:Nat} {vs:List Value} {M:List (List (Int × Int))} (h:RMat w base (some ⟨G,0,none⟩) N cap vs M) {i n g c:Nat} (hi:i<N) (hv:vs[i]?.getD undef=.slice (some ⟨g,0,none⟩) n c) {j:Nat} (hj:j<(M[i]?.getD []).length) (x y:Int) :
 RMat ((w.setCell ⟨g,j*2,none⟩ (.int .i64 x)).setCell ⟨g,j*2+1,none⟩ (.int .i64 y)) base (some ⟨G,0,none⟩) N cap vs (M.set i ((M[i]?.getD []).set j (x,y))):=by
 have hil:i<M.length:=by rw [h.len];exact hi
 have hr:=h.rows.row i hil;rw [hv] at hr;have hgG:g ≠ G:=fun e=>hr.apart h.own g rfl (by subst e;rfl)
 have hset:∀ k,k ≠ g->((w.setCell ⟨g,j*2,none⟩ (.int .i64 x)).setCell ⟨g,j*2+1,none⟩ (.int .i64 y)).heap[k]?=w.heap[k]?:=fun k hk=>by
  rw [heap_setCell_other _ _ _ _ hk,heap_setCell_other _ _ _ _ hk]
 refine ⟨h.own.keep fun k hk=>hset k (by simp only [Value.ownBlock,Option.some.injEq] at hk;show k ≠ g;omega),?_⟩;refine ⟨by rw [List.length_set];exact h.rows.len,fun k hk=>?_,fun a b k hab hb=>h.rows.apart a b k hab (by rw [List.length_set] at hb;exact hb)⟩;rw [List.length_set] at hk;by_cases hki:k=i
 ·subst hki;rw [hv,List.getElem?_set_self hil];exact hr.set hj x y
 ·rw [List.getElem?_set_ne (Ne.symm hki)];refine (h.rows.row k hk).keep fun b hb=>hset b fun e=>?_
  subst e
  rcases Nat.lt_or_gt_of_ne hki with hlt|hlt
  ·exact h.rows.apart k i _ hlt hil hb (by rw [hv];rfl)
  ·exact h.rows.apart i k _ hlt hk (by rw [hv];rfl) hb
structure TbM (w:World) (base g G N cap:Nat) (vb:Value) (x:Int) (vs:List Value) (M:List (List (Int × Int))) (l:List Int):Prop where
 box:w.heap[g]?=some (.cells #[.slice (some ⟨G,0,none⟩) N cap,vb,.int .i64 x] 83 (0,0))
 hg:base<=g
 m:RMat w base (some ⟨G,0,none⟩) N cap vs M
 b:OwnI w base vb l
section
variable {w:World} {base g G N cap:Nat} {vb:Value} {x:Int} {vs:List Value} {M:List (List (Int × Int))} {l:List Int}
theorem TbM.ext {w':World} (h:TbM w base g G N cap vb x vs M l) (hx:Ext w w'):TbM w' base g G N cap vb x vs M l:=⟨(hx.block _ (lt_of_block h.box)).trans h.box,h.hg,h.m.ext hx,h.b.ext hx⟩
theorem TbM.own (h:TbM w base g G N cap vb x vs M l):OwnT w base (.slice (some ⟨G,0,none⟩) N cap) vb vs ⟨M,l,x⟩:=⟨h.m.own,h.m.rows,h.b⟩
theorem TbM.c0 (h:TbM w base g G N cap vb x vs M l):w.cell? ⟨g,0,none⟩=some (.slice (some ⟨G,0,none⟩) N cap):=aq h.box
theorem TbM.rowNe (h:TbM w base g G N cap vb x vs M l) {i:Nat} {g':Nat} (hi:i<M.length) (hv:(vs[i]?.getD undef).ownBlock=some g'):g' ≠ g/\vb.ownBlock ≠ some g':=by
 have hr:=h.m.rows.row i hi;exact ⟨fun e=>(ap hr h.box (by decide)) (by rw [hv,e]),fun e=>aW (by decide) hr h.b g' hv e⟩
theorem TbM.inrow (h:TbM w base g G N cap vb x vs M l) {i n g' c:Nat} (hi:i<N) (hv:vs[i]?.getD undef=.slice (some ⟨g',0,none⟩) n c) {j:Nat} (hj:j<(M[i]?.getD []).length) (p q:Int) :
 TbM ((w.setCell ⟨g',j*2,none⟩ (.int .i64 p)).setCell ⟨g',j*2+1,none⟩ (.int .i64 q)) base g G N cap vb x vs (M.set i ((M[i]?.getD []).set j (p,q))) l:=by
 obtain ⟨h1,h2⟩:=h.rowNe (i:=i) (g':=g') (by rw [h.m.len];exact hi) (by rw [hv];rfl);refine ⟨?_,h.hg,h.m.inrow hi hv hj p q,h.b.keep fun k hk=>?_⟩
 ·rw [heap_setCell_other _ _ _ _ h1.symm,heap_setCell_other _ _ _ _ h1.symm];exact h.box
 ·have:k ≠ g':=fun e=>h2 (by rw [hk,e])
  rw [heap_setCell_other _ _ _ _ this,heap_setCell_other _ _ _ _ this]
theorem TbM.put {w2:World} (h:TbM w base g G N cap vb x vs M l) (hx:Ext w w2) (hb:base<=w.heap.size) {v:Value} {r:List (Int × Int)} (ho:OwnR w2 w.heap.size v r) {i:Nat} (hi:i<N) :
 TbM (w2.setCell ⟨G,i,none⟩ v) base g G N cap vb x (vs.set i v) (M.set i r) l:=by
 have h2:=h.ext hx;have hG:g ≠ G:=fun e=>(ap h.m.own h.box (by decide)) (by rw [e];rfl)
 refine ⟨by rw [heap_setCell_other _ _ _ _ hG];exact h2.box,h.hg,h.m.put hx hb ho hi,h2.b.keep fun k hk=>heap_setCell_other _ _ _ _ fun e=>?_⟩;exact aW (by decide) h2.b h2.m.own k hk (by subst e;rfl)
theorem TbM.putB {B n bc:Nat} (h:TbM w base g G N cap (.slice (some ⟨B,0,none⟩) n bc) x vs M l) (i:Nat) (z:Int) :
 TbM (w.setCell ⟨B,i,none⟩ (.int .i64 z)) base g G N cap (.slice (some ⟨B,0,none⟩) n bc) x vs M (l.set i z):=by
 have hBg:g ≠ B:=fun e=>(ap h.b h.box (by decide)) (by rw [e];rfl)
 refine ⟨by rw [heap_setCell_other _ _ _ _ hBg];exact h.box,h.hg,h.m.keep (fun k hk=>heap_setCell_other _ _ _ _ fun e=>?_) (fun j k hj hk=>heap_setCell_other _ _ _ _ fun e=>?_),h.b.set i z⟩
 ·exact aW (by decide) h.m.own h.b k hk (by subst e;rfl)
 ·exact aW (by decide) (h.m.rows.row j (by rw [h.m.len];exact hj)) h.b k hk (by subst e;rfl)
end
def dl (t:Tb) (row col:Int):Tb:=(bu t row col).getD t
theorem tr {t:Tb} {row col:Int} (h:dU t row col=false):bu t row col=none:=by unfold bu;rw [h];rfl
theorem iV {t:Tb} {r c:Nat} (h:dU t (r:Int) (c:Int)=true):bu t r c=fG t r c:=by unfold bu;rw [if_pos h];rfl
theorem iU {t:Tb} {r c:Nat} (h:divL (t.row r) (t.at r c)=none):fG t r c=none:=by unfold fG;rw [h];rfl
theorem kj {t:Tb} {r c:Nat} {main:List (Int × Int)} (h:divL (t.row r) (t.at r c)=some main):fG t r c=(pivN t r c main t.rows.length).map fun rs=>⟨rs,t.basis.set r (c:Int),t.cols⟩:=by unfold fG;rw [h];rfl
theorem nq {t:Tb} {r c:Nat} {main:List (Int × Int)} {k:Nat} (h:pivN t r c main k=none):∀ {n:Nat},k<=n->pivN t r c main n=none
 | n,hn=>by
   obtain ⟨d,rfl⟩:∃ d,n=k+d:=⟨n-k,by omega⟩;clear hn
   induction d with
   | zero=>exact h
   | succ d ih=>show (pivN t r c main (k+d)).bind _=none;rw [ih];rfl
theorem np {t:Tb} {r c:Nat} {main:List (Int × Int)} (hr:r<t.rows.length):∀ {k:Nat} {M:List (List (Int × Int))},pivN t r c main k=some M->M.length=t.rows.length/\M[r]?.getD []=main
 | 0,M,h=>by
   simp only [pivN,Option.some.injEq] at h;subst h;exact ⟨by simp,by rw [List.getElem?_set_self hr];rfl⟩
 | k+1,M,h=>by
   simp only [pivN] at h;cases e:pivN t r c main k with
   | none=>rw [e] at h;cases h
   | some s0 =>
     rw [e] at h;simp only [Option.bind_some] at h;obtain ⟨h1,h2⟩:=np hr e;unfold pivF at h
     split at h
     ·simp only [Option.some.injEq] at h;subst h;exact ⟨h1,h2⟩
     ·next hn =>
      rw [Option.map_eq_some_iff] at h;obtain ⟨x,_,rfl⟩:=h;refine ⟨by rw [List.length_set,h1],?_⟩;rw [List.getElem?_set_ne (fun e=>hn (.inl e))];exact h2
theorem ns {t:Tb} {r c:Nat} {main:List (Int × Int)} {k:Nat} {M:List (List (Int × Int))} (h:pivN t r c main k=some M) (hs:k=r ∨ t.at k c=(0,1)):pivN t r c main (k+1)=some M:=by
 simp only [pivN,h,Option.bind_some,pivF,if_pos hs]
theorem qx {t:Tb} {r c:Nat} {main:List (Int × Int)} {k:Nat} {M:List (List (Int × Int))} (h:pivN t r c main k=some M) (hs:¬ (k=r ∨ t.at k c=(0,1))):pivN t r c main (k+1)=(sclL (t.row k) (negR (t.at k c)) main).map fun x=>M.set k x:=by
 simp only [pivN,h,Option.bind_some,pivF,if_neg hs]
theorem divMid {r m:List (Int × Int)} {j:Nat} {q:Int × Int} (hm:m.length=j) (hj:j<r.length):(m++r.drop j).set j q=(m++[q])++r.drop (j+1):=by
 rw [List.set_append_right _ _ (by omega),hm,Nat.sub_self,List.drop_eq_getElem_cons hj,List.set_cons_zero,List.append_assoc];rfl
end Go.Proofs.YthjjfkeacobikaaGreat
namespace Go.Proofs.YthjjfkeacobikaaGreat
set_option maxRecDepth 100000
open Go.RowKit
def PivR (w:World) (base:Nat) (e:Ending) (t:Tb) (ok:Bool):Prop:=∃ va vb vs,e=.returned (.tuple #[.agg #[va,vb,.int .i64 t.cols],.bool ok])/\OwnT w base va vb vs t
section
variable {w:World} {ra:Option Addr} {rn rc:Nat} {ba:Option Addr} {bn bc:Nat} {t:Tb}
set_option maxHeartbeats 16000000 in
theorem lq (h:TbC w ra rn rc ba bn bc t) (hrn:rn<=100000) (hbn:bn<=100000) (hrl:∀ i,i<rn->(t.row i).length<=1048576) (row col:Int) (hno:dU t row col=false) :
 Calls Tryz.prog 55 #[tbW ra rn rc ba bn bc t.cols,.int .i64 row,.int .i64 col] w fun e w'=>PivR w' w.heap.size e t false/\Ext w w':=by
 have hx0:=(Ext.alloc w (bQ ra rn rc ba bn bc t.cols)).trans (Ext.alloc _ (.cells #[.slice none 0 0,.slice none 0 0,.int .i64 0] 83));obtain ⟨W,hW⟩:∃ W,W=(w.alloc (bQ ra rn rc ba bn bc t.cols)).alloc (.cells #[.slice none 0 0,.slice none 0 0,.int .i64 0] 83):=⟨_,rfl⟩;rw [<-hW] at hx0;have HX0:=ae hx0;have H:=ae (h.ext hx0);have HF:=ae (gZ H.out (by omega));have HTP:=ae (fun ok=>fK h ok);have HCL:=ae (fun (w':World) (hx:Ext W w')=>iv (H.out.ext hx) (by omega) (by omega) hrl);have HGB:=ae (show W.heap[w.heap.size+1]?=some (.cells #[.slice none 0 0,.slice none 0 0,.int .i64 0] 83 (0,0)) by rw [hW];exact aj _ _ _ (by simp));have HTB:=ae (show W.heap[w.heap.size]?=some (.cells #[.slice ra rn rc,.slice ba bn bc,.int .i64 t.cols] 83 (0,0)) by rw [hW,bK _ _ _ (by simp)];exact aj _ _ _ rfl);have HSW:=ae (show W.heap.size=w.heap.size+1+1 by rw [hW];simp);have hr1:=h.rows.hcap;have hr2:=h.rows.hmax;obtain ⟨rows,basis,x⟩:=t
 have HNO:=ae (show (tbOk ⟨rows,basis,x⟩&&(inB row 0 ((rn:Int)-1)&&inB col 0 (x+(rn:Int)-1)))=false by
  have:=hno;unfold dU at this;simp only at this;rw [h.rows.hlen] at this;exact this)
 clear h hx0 hrl hno
 show Calls _ _ #[tbW ra rn rc ba bn bc x,.int .i64 row,.int .i64 col] w _;cases hok:tbOk ⟨rows,basis,x⟩
 ·rw [hok] at HF;clear hok;go_enter Tryz.func55,Tryz.ntmps55
  go_upto_region 1 with fail;rw [<-hW];clear hW;have p0:=aq HTB.out;have p1:=aw HTB.out;have p2:=az HTB.out;go_wp2_with fail;refine HF.out.mono ?_;rintro e w1 ⟨rfl,hx⟩;have X1:=ae hx;clear hx p0 p1 p2;have p0:=aq (X1.out.blk HTB.out);have p1:=aw (X1.out.blk HTB.out);have p2:=az (X1.out.blk HTB.out);go_wp2_with fail;refine (HCL.out _ X1.out).mono ?_;rintro e w2 ⟨⟨va,vb,vs,rfl,ho⟩,hx⟩;have X2:=ae (X1.out.trans hx);have HO:=ae ho;obtain ⟨a7,n7,c7,rfl,HN7⟩:=ho.a.var;obtain ⟨a8,n8,c8,rfl,HN8⟩:=ho.b.var;have r0:=aq (X2.out.blk HGB.out);have r1:=aw (X2.out.blk HGB.out);have r2:=az (X2.out.blk HGB.out);have rf:=cU (X2.out.blk HGB.out);have hsz:=X1.out.size;have hww:=HSW.out;clear hx ho p0 p1 p2;go_wp2_with fail;refine bodyPost_ret (v:=.tuple #[.agg #[.slice a7 n7 c7,.slice a8 n8 c8,.int .i64 x],.bool false]) (by simp [results,Tryz.results55,go_sem,r0,r1,r2,rf]) rfl ⟨⟨_,_,vs,rfl,(HO.out.keepAll fun k hk=>cG _ _ _ _ _ _ (by omega)).mono (by omega)⟩,(HX0.out.trans X2.out).set3 (Nat.le_succ _) _ _ _⟩
 ·rw [hok] at HF;obtain ⟨m,hxm,hm,hbr,_,_⟩:=HTP.out hok;simp only at hxm;subst hxm hbr;have HNO2:=ae (show (inB row 0 ((bn:Int)-1)&&inB col 0 ((m:Int)+(bn:Int)-1))=false by have:=HNO.out;rw [hok] at this;simpa using this);have HR1:=ae (fun w=>aX row 0 ((bn:Int)-1) w);have HR2:=ae (fun w=>aX col 0 ((m:Int)+(bn:Int)-1) w);clear hok;cases hin:inB row 0 ((bn:Int)-1)
  case' true =>
   have hin2:inB col 0 ((m:Int)+(bn:Int)-1)=false:=by have:=HNO2.out;rw [hin] at this;simpa using this
   simp only [hin2] at HR2;clear hin2
  all_goals
   simp only [hin] at HR1;clear hin;go_enter Tryz.func55,Tryz.ntmps55
   go_upto_region 1 with fail;rw [<-hW];clear hW;have p0:=aq HTB.out;have p1:=aw HTB.out;have p2:=az HTB.out;go_wp2_with fail;refine HF.out.mono ?_;rintro e w1 ⟨rfl,hx⟩;have X1:=ae hx;clear hx p0 p1 p2;have p0:=aq (X1.out.blk HTB.out);have p1:=aw (X1.out.blk HTB.out);have p2:=az (X1.out.blk HTB.out);go_wp2_with fail;refine (HR1.out _).mono ?_;rintro e w1' ⟨rfl,rfl⟩;go_wp2_with fail
  all_goals
   try (
    with_reducible refine (HR2.out _).mono ?_
    rintro e w1' ⟨rfl,rfl⟩
    go_wp2_with fail)
   refine (HCL.out _ X1.out).mono ?_;rintro e w2 ⟨⟨va,vb,vs,rfl,ho⟩,hx⟩;have X2:=ae (X1.out.trans hx);have HO:=ae ho;obtain ⟨a7,n7,c7,rfl,HN7⟩:=ho.a.var;obtain ⟨a8,n8,c8,rfl,HN8⟩:=ho.b.var;have r0:=aq (X2.out.blk HGB.out);have r1:=aw (X2.out.blk HGB.out);have r2:=az (X2.out.blk HGB.out);have rf:=cU (X2.out.blk HGB.out);have hsz:=X1.out.size;have hww:=HSW.out;clear hx ho p0 p1 p2;go_wp2_with fail;refine bodyPost_ret (v:=.tuple #[.agg #[.slice a7 n7 c7,.slice a8 n8 c8,.int .i64 (m:Int)],.bool false]) (by simp [results,Tryz.results55,go_sem,r0,r1,r2,rf]) rfl ⟨⟨_,_,vs,rfl,(HO.out.keepAll fun k hk=>cG _ _ _ _ _ _ (by omega)).mono (by omega)⟩,(HX0.out.trans X2.out).set3 (Nat.le_succ _) _ _ _⟩
end
end Go.Proofs.YthjjfkeacobikaaGreat
namespace Go.Proofs.YthjjfkeacobikaaGreat
set_option maxRecDepth 100000
open Go.RowKit
section
variable {w:World} {ra:Option Addr} {rn rc:Nat} {ba:Option Addr} {bn bc:Nat} {t:Tb}
set_option maxHeartbeats 32000000 in
theorem ls (h:TbC w ra rn rc ba bn bc t) (hrn:rn<=100000) (hbn:bn<=100000) (hval:∀ i j,-9223372036854775807<=(t.at i j).1/\(t.at i j).1<=9223372036854775807) (row col:Int) (hyes:dU t row col=true) :
 Calls Tryz.prog 55 #[tbW ra rn rc ba bn bc t.cols,.int .i64 row,.int .i64 col] w fun e w'=>PivR w' w.heap.size e (dl t row col) (bu t row col).isSome/\Ext w w':=by
 have hx0:=(Ext.alloc w (bQ ra rn rc ba bn bc t.cols)).trans (Ext.alloc _ (.cells #[.slice none 0 0,.slice none 0 0,.int .i64 0] 83));obtain ⟨W,hW⟩:∃ W,W=(w.alloc (bQ ra rn rc ba bn bc t.cols)).alloc (.cells #[.slice none 0 0,.slice none 0 0,.int .i64 0] 83):=⟨_,rfl⟩;rw [<-hW] at hx0;have HX0:=ae hx0;have H:=ae (h.ext hx0);have hok:tbOk t=true:=by unfold dU at hyes;simp only [Bool.and_eq_true] at hyes;exact hyes.1
 have HF:=ae (gZ H.out (by omega));rw [hok] at HF;obtain ⟨m,hxm,hm,hbr,hrl0,hbs0⟩:=fK h hok;subst hbr;have hrl:∀ i,i<bn->(t.row i).length<=1048576:=fun i hi=>by rw [hrl0 i hi];omega
 have HCL:=ae (fun (w':World) (hx:Ext W w')=>iv (H.out.ext hx) (by omega) (by omega) hrl);have HGB:=ae (show W.heap[w.heap.size+1]?=some (.cells #[.slice none 0 0,.slice none 0 0,.int .i64 0] 83 (0,0)) by rw [hW];exact aj _ _ _ (by simp));have HTB:=ae (show W.heap[w.heap.size]?=some (.cells #[.slice ra bn rc,.slice ba bn bc,.int .i64 t.cols] 83 (0,0)) by rw [hW,bK _ _ _ (by simp)];exact aj _ _ _ rfl);have HSW:=ae (show W.heap.size=w.heap.size+1+1 by rw [hW];simp);have hr1:=h.rows.hcap;have hr2:=h.rows.hmax;obtain ⟨rows,basis,x⟩:=t;simp only at hxm;subst hxm;have HLR:=ae (show rows.length=bn from h.rows.hlen);have HLB:=ae (show basis.length=bn from h.basis.hlen);have hin:inB row 0 ((bn:Int)-1)=true/\inB col 0 ((m:Int)+(bn:Int)-1)=true:=by
  have:=hyes;unfold dU at this;simp only [Bool.and_eq_true] at this;rw [h.rows.hlen] at this;exact this.2
 obtain ⟨hin1,hin2⟩:=hin;obtain ⟨r,rfl⟩:∃ r:Nat,row=r:=⟨row.toNat,by simp [inB] at hin1;omega⟩;obtain ⟨c,rfl⟩:∃ c:Nat,col=c:=⟨col.toNat,by simp [inB] at hin2;omega⟩;have hrb:r<bn:=by simp [inB] at hin1;omega
 obtain ⟨u,hu⟩:∃ u,u=m+bn+1:=⟨_,rfl⟩;have hcu:c<u:=by simp [inB] at hin2;omega
 have hub:u<=200000:=by omega
 have HR1:=ae (fun w=>aX (r:Int) 0 ((bn:Int)-1) w);have HR2:=ae (fun w=>aX (c:Int) 0 ((m:Int)+(bn:Int)-1) w);simp only [hin1] at HR1;simp only [hin2] at HR2;obtain ⟨T,hT⟩:∃ T,T=Tb.mk rows basis (m:Int):=⟨_,rfl⟩;have HRL:=ae (show ∀ i,i<bn->(T.row i).length=u by rw [hT,hu];exact hrl0);rw [<-hT] at hyes;have HYG:=ae (iV hyes);have HTR:=ae (show T.rows=rows/\T.basis=basis/\T.cols=(m:Int) by rw [hT];exact ⟨rfl,rfl,rfl⟩);have HRW:=ae (show ∀ i,T.row i=rows[i]?.getD [] by intro i;rw [hT];rfl);rw [<-hT] at HCL;have HH:=ae (show fU W ra bn rc rows from H.out.rows);have HCM:=ae (show T.cols=(m:Int) by rw [hT]);rw [<-hT] at hval;have HVAL:=ae hval;clear hval;rw [HCM.out] at HCL;clear h hx0 hrl hyes hin1 hin2 hok hrl0 hbs0 hu H;have hshow:dl (Tb.mk rows basis (m:Int)) (r:Int) (c:Int)=dl T (r:Int) (c:Int)/\bu (Tb.mk rows basis (m:Int)) (r:Int) (c:Int)=bu T (r:Int) (c:Int):=by rw [hT];exact ⟨rfl,rfl⟩
 rw [hshow.1,hshow.2];clear hshow hT
 show Calls _ _ #[tbW ra bn rc ba bn bc (m:Int),.int .i64 (r:Int),.int .i64 (c:Int)] w _;have hrr:(r:Int)<(bn:Int):=by omega
 have hr0:(0:Int)<=(r:Int):=by omega
 go_enter Tryz.func55,Tryz.ntmps55
 go_upto_region 1 with fail;rw [<-hW];clear hW;have p0:=aq HTB.out;have p1:=aw HTB.out;have p2:=az HTB.out;go_wp2_with fail;refine HF.out.mono ?_;rintro e w1 ⟨rfl,hx⟩;have X1:=ae hx;clear hx p0 p1 p2;have p0:=aq (X1.out.blk HTB.out);have p1:=aw (X1.out.blk HTB.out);have p2:=az (X1.out.blk HTB.out);go_wp2_with fail;refine (HR1.out _).mono ?_;rintro e w1' ⟨rfl,rfl⟩;go_wp2_with fail;refine (HR2.out _).mono ?_;rintro e w1' ⟨rfl,rfl⟩;go_wp2_with fail;refine (HCL.out _ X1.out).mono ?_;rintro e w2 ⟨⟨va,vb,vs,rfl,ho⟩,hx⟩;have X2:=ae (X1.out.trans hx);obtain ⟨aa,na,ca,rfl,HNA⟩:=ho.a.var;obtain ⟨ab,nb,cb,rfl,HNB⟩:=ho.b.var;obtain rfl:na=bn:=by have h1:=ho.rows.len;have h2:=HTR.out.1;have h3:=HLR.out;have h4:=HNA.out;rw [h2] at h1;omega
 obtain rfl:nb=na:=by have h1:=HNB.out;have h2:=HTR.out.2.1;have h3:=HLB.out;rw [h2] at h1;omega
 obtain ⟨G,hG,_,_⟩:=ho.a.cell hrb;subst hG;obtain ⟨B,hB,_,_,_⟩:=ho.b.block hrb;subst hB;obtain ⟨E,hE⟩:∃ E,E=w2.alloc (.cells #[.slice (some ⟨G,0,none⟩) nb ca,.slice (some ⟨B,0,none⟩) nb cb,.int .i64 (m:Int)] 83):=⟨_,rfl⟩;have hxE:Ext w2 E:=by rw [hE];exact Ext.alloc _ _
 have hbs2:w1.heap.size<=w2.heap.size:=hx.size;have HVS:=ae (fun i g' (hi:i<nb) (he:(vs[i]?.getD undef).ownBlock=some g')=>((ho.rows.row i (by rw [HTR.out.1,HLR.out];exact hi)).lt g' he).2)
 have HM0:=ae (show TbM E w1.heap.size w2.heap.size G nb ca (.slice (some ⟨B,0,none⟩) nb cb) (m:Int) vs rows basis from
  ⟨by rw [hE];exact aj _ _ _ rfl,hbs2,⟨ho.a.ext hxE,by have:=ho.rows.ext hxE;rw [HTR.out.1] at this;exact this⟩,by have:=ho.b.ext hxE;rw [HTR.out.2.1] at this;exact this⟩)
 have XE:=ae (X2.out.trans hxE);have X1E:=ae (hx.trans hxE);have hsw1:w.heap.size+1+1<=w1.heap.size:=by have:=X1.out.size;have:=HSW.out;omega
 have hsE:w1.heap.size<=E.heap.size:=by have:=hxE.size;omega
 have HSE:=ae hxE.size;clear ho p0 p1 p2 hx;go_upto_region 4 with fail;rw [<-hE];clear hE hxE;have p0:=aq (XE.out.blk HTB.out);obtain ⟨zb,zoff,za,zn,zc,hza,hzW,hrow⟩:=HH.out.at hrb;subst hza;have hzn:zn=u:=by rw [<-hrow.hlen,<-HRW.out];exact HRL.out r hrb
 subst hzn;have hrc1:=hrow.hcap;have hrc2:=hrow.hmax;have HROW:=ae (show Rats W za zn zc (T.row r) by rw [HRW.out];exact hrow);have HZW:=ae hzW;obtain ⟨pb,poff,pp,pq,hpa,hpv,hp0,hp1⟩:=(HROW.out.ext XE.out).at hcu;subst hpa;have hz0:=XE.out.cellSome HZW.out;have HPV:=ae (show T.at r c=(pp,pq) from hpv);have HLW:=ae (HRL.out r hrb);have hcc:(c:Int)<(zn:Int):=by omega
 have hc0:(0:Int)<=(c:Int):=by omega
 clear hpv hrow hzW;obtain ⟨E2,hE2⟩:∃ E2,E2=E.alloc (.cells #[.int .i64 pp,.int .i64 pq] 43):=⟨_,rfl⟩;have hxE2:Ext E E2:=by rw [hE2];exact Ext.alloc _ _
 have hsE2:E2.heap.size=E.heap.size+1:=by rw [hE2];simp
 have HM1:=ae (HM0.out.ext hxE2);have HPB:=ae (show E2.heap[E.heap.size]?=some (.cells #[.int .i64 pp,.int .i64 pq] 43 (0,0)) by rw [hE2];exact aj _ _ _ rfl);have X1E2:=ae (X1E.out.trans hxE2);have hw2E:w2.heap.size<=E.heap.size:=HSE.out;have HSE2:=ae hsE2;go_upto_region 5 with fail;rw [<-hE2];clear hE2 hxE2 p0 hz0 hp0 hp1 hsE2;have p0:=aq ((X1.out.trans X1E2.out).blk HTB.out);have hz0:=(X1.out.trans X1E2.out).cellSome HZW.out;go_wp2_with fail
 go_loopg [60] zn (fun gk ii wr=>∃ (k:Nat) (mm:List (Int × Int)),Hid (gk+k=zn)/\ii=.int .i64 (k:Int)/\Hid (runT (divF (T.row r) (T.at r c)) k=some mm)/\Hid (TbM wr w1.heap.size w2.heap.size G nb ca (.slice (some ⟨B,0,none⟩) nb cb) (m:Int) vs (rows.set r (mm++(T.row r).drop k)) basis)/\Hid (Ext w1 wr)/\Hid (wr.heap[E.heap.size]?=some (.cells #[.int .i64 pp,.int .i64 pq] 43 (0,0))))
 case atStart =>
  refine ⟨0,[],ae (by omega),rfl,ae rfl,ae ?_,X1E2,HPB⟩;have h1:=HM1.out;have h2:rows.set r ([]++(T.row r).drop 0)=rows:=by
   rw [List.nil_append,List.drop_zero,HRW.out];refine List.ext_getElem? fun i=>?_
   by_cases hir:r=i
   ·subst hir;rw [List.getElem?_set_self (by rw [HLR.out];exact hrb),List.getElem?_eq_getElem (by rw [HLR.out];exact hrb)];rfl
   ·rw [List.getElem?_set_ne hir]
  rw [h2];exact h1
 case round =>
  obtain ⟨g1,h_g1⟩:∃ x,x=gk:=⟨_,rfl⟩;subst h_g1;obtain ⟨wr1,h_wr1⟩:∃ x,x=wr:=⟨_,rfl⟩;subst h_wr1;obtain ⟨k,mm,HK,rfl,HMM,HT,HX,HP⟩:=hrel;clear p0 hz0;have hsr:=HX.out.size;have hpl:=lt_of_block HP.out;by_cases hlt:k<zn
  ·obtain ⟨xb,xoff,ex,ey,hxa,hxv,hx0,hx1⟩:=(HROW.out.ext (X1.out.trans HX.out)).at hlt;simp only [Option.some.injEq,Addr.mk.injEq,and_true] at hxa;obtain ⟨rfl,rfl⟩:=hxa;have HXV:=ae hxv;have q0:wr1.cell? ⟨E.heap.size,0,none⟩=some (.int .i64 pp):=(ai HP.out).1;have q1:wr1.cell? ⟨E.heap.size,1,none⟩=some (.int .i64 pq):=(ai HP.out).2.1;obtain ⟨d1,d2,dok,hdd⟩:∃ x y ok,divR (ex,ey) (pp,pq)=((x,y),ok):=⟨_,_,_,rfl⟩;have HDF:=ae (show divF (T.row r) (T.at r c) k=if dok=true then some (d1,d2) else none by unfold divF;rw [HXV.out,HPV.out,hdd]);have HDV:=ae (fun w=>ov ex ey pp pq w);simp only [hdd] at HDV;clear hxv hdd;go_wp2_with fail;refine (HDV.out _).mono ?_;rintro e w5 ⟨rfl,hx⟩;have X5:=ae ((Ext.alloc wr1 (.cells #[.int .i64 ex,.int .i64 ey] 43)).trans hx);have X6:=ae (X5.out.trans (Ext.alloc w5 (.cells #[.int .i64 d1,.int .i64 d2] 43)));have hs5:=X5.out.size;clear hx q0 q1;obtain ⟨E5,hE5⟩:∃ E5,E5=w5.alloc (.cells #[.int .i64 d1,.int .i64 d2] 43):=⟨_,rfl⟩;have HQ:=ae (show E5.heap[w5.heap.size]?=some (.cells #[.int .i64 d1,.int .i64 d2] 43 (0,0)) by rw [hE5];exact aj _ _ _ rfl);rw [<-hE5] at X6;cases dok
   ·have HN:=ae (show bu T (r:Int) (c:Int)=none by
     rw [HYG.out];refine iU ?_
     unfold divL;rw [HLW.out];exact fu HMM.out (by rw [HDF.out];rfl) hlt)
    go_upto_region 10 with fail;rw [<-hE5];clear hE5;have xf:=((X1.out.trans HX.out).trans X6.out);have p0:=aq (xf.blk HTB.out);have p1:=aw (xf.blk HTB.out);have p2:=az (xf.blk HTB.out);have XF:=ae xf;clear xf;go_wp2_with fail;refine (HCL.out _ XF.out).mono ?_;rintro e w8 ⟨⟨va8,vb8,vs8,rfl,ho8⟩,hx⟩;have X8:=ae (XF.out.trans hx);have HO8:=ae ho8;obtain ⟨a7,n7,c7,rfl,HN7⟩:=ho8.a.var;obtain ⟨a8,n8,c8,rfl,HN8⟩:=ho8.b.var;have r0:=aq (X8.out.blk HGB.out);have r1:=aw (X8.out.blk HGB.out);have r2:=az (X8.out.blk HGB.out);have rf:=cU (X8.out.blk HGB.out);have hsz:=XF.out.size;have hww:=HSW.out;clear hx ho8 p0 p1 p2;go_wp2_with fail;refine bodyPost_ret (v:=.tuple #[.agg #[.slice a7 n7 c7,.slice a8 n8 c8,.int .i64 (m:Int)],.bool false]) (by simp [results,Tryz.results55,go_sem,r0,r1,r2,rf]) rfl ⟨?_,(HX0.out.trans X8.out).set3 (Nat.le_succ _) _ _ _⟩;refine ⟨.slice a7 n7 c7,.slice a8 n8 c8,vs8,?_,?_⟩
    ·unfold dl;rw [HN.out,Option.getD_none,HCM.out];rfl
    ·unfold dl;rw [HN.out,Option.getD_none];exact (HO8.out.keepAll fun k hk=>cG _ _ _ _ _ _ (by omega)).mono (by omega)
   ·go_upto_region 11 with fail;rw [<-hE5];clear hE5;have HM2:=ae (du (x:=(d1,d2)) HMM.out (by rw [HDF.out];rfl));have HLM:=ae (cI HMM.out);have HT5:=ae (HT.out.ext X6.out);have HROWr:=ae (show (rows.set r (mm++(T.row r).drop k))[r]?.getD []=mm++(T.row r).drop k by rw [List.getElem?_set_self (by rw [HLR.out];exact hrb)];rfl);have HLL:=ae (show (mm++(T.row r).drop k).length=zn by rw [List.length_append,List.length_drop,HLM.out,HLW.out];omega);obtain ⟨rg,rcap,hvr,hcr,hor,_,hbg,hgl,hc1,hc2⟩:=HT5.out.m.row hrb (n:=zn) (by rw [HROWr.out,HLL.out]) (by omega);obtain ⟨rg',_,_,_,he',_,ho0,ho1⟩:=hor.rats.at hlt;simp only [Option.some.injEq,Addr.mk.injEq,and_true] at he';obtain ⟨rfl,rfl⟩:=he';obtain ⟨rg',he',_,hfr,_⟩:=hor.block hlt;simp only [Option.some.injEq,Addr.mk.injEq,and_true] at he';subst he';have c8:=HT5.out.c0;have q0:E5.cell? ⟨w5.heap.size,0,none⟩=some (.int .i64 d1):=(ai HQ.out).1;have q1:E5.cell? ⟨w5.heap.size,1,none⟩=some (.int .i64 d2):=(ai HQ.out).2.1;have hk0:(0:Int)<=(k:Int):=by omega
    have hk1:(k:Int)<(zn:Int):=by omega
    have HVR:=ae hvr;have hrgE:rg ≠ E.heap.size:=by have:=HVS.out r rg hrb (by rw [HVR.out];rfl);omega
    have HNE:=ae hrgE;clear hvr hor hrgE;rw [Nat.zero_add] at ho0 ho1
    go_still_tail 8,(by kernel_rfl)
    have HT6:=ae (show TbM ((E5.drew.setCell ⟨rg,k*2,none⟩ (.int .i64 d1)).setCell ⟨rg,k*2+1,none⟩ (.int .i64 d2)) w1.heap.size w2.heap.size G nb ca (.slice (some ⟨B,0,none⟩) nb cb) (m:Int) vs (rows.set r ((mm++[(d1,d2)])++(T.row r).drop (k+1))) basis by
     have h1:=(HT5.out.ext (Ext.drew E5)).inrow hrb HVR.out (j:=k) (by rw [HROWr.out,HLL.out];exact hlt) d1 d2;rw [HROWr.out,List.set_set,divMid HLM.out (by rw [HLW.out];exact hlt)] at h1
     exact h1)
    have HX6:=ae (((HX.out.trans (X6.out.trans (Ext.drew E5))).setCell (p:=⟨rg,k*2,none⟩) hbg (.int .i64 d1)).setCell (p:=⟨rg,k*2+1,none⟩) hbg (.int .i64 d2))
    have HP6:=ae (show ((E5.drew.setCell ⟨rg,k*2,none⟩ (.int .i64 d1)).setCell ⟨rg,k*2+1,none⟩ (.int .i64 d2)).heap[E.heap.size]?=some (.cells #[.int .i64 pp,.int .i64 pq] 43 (0,0)) by
     rw [heap_setCell_other _ _ _ _ HNE.out.symm,heap_setCell_other _ _ _ _ HNE.out.symm];exact (X6.out.trans (Ext.drew E5)).blk HP.out)
    go_wp2_with fail
    go_roundg (g1-1)
    case measure=>have:=HK.out;omega
    case rel=>exact ⟨k+1,mm++[(d1,d2)],ae (by have:=HK.out;omega),by go_num,HM2,HT6,HX6,HP6⟩
  ·have hkn:zn=k:=by have:=HK.out;omega
   subst hkn;have HDL:=ae (show divL (T.row r) (T.at r c)=some mm by unfold divL;rw [HLW.out];exact HMM.out)
   have HPG:=ae (show bu T (r:Int) (c:Int)=(pivN T r c mm nb).map fun rs=>⟨rs,basis.set r (c:Int),(m:Int)⟩ by
    rw [HYG.out,kj HDL.out,HTR.out.1,HLR.out,HTR.out.2.1,HCM.out])
   have HT0:=ae (show TbM wr1 w1.heap.size w2.heap.size G nb ca (.slice (some ⟨B,0,none⟩) nb cb) (m:Int) vs (rows.set r mm) basis by
    have h1:=HT.out
    rw [List.drop_eq_nil_of_le (by rw [HLW.out];exact Nat.le_refl _),List.append_nil] at h1;exact h1)
   have p0:=aq ((X1.out.trans HX.out).blk HTB.out);clear hpl;go_wp2_with fail
   go_loopg [87] nb (fun gk ii wr=>∃ (k:Nat) (vs2:List Value) (M:List (List (Int × Int))),Hid (gk+k=nb)/\ii=.int .i64 (k:Int)/\Hid (pivN T r c mm k=some M)/\Hid (TbM wr w1.heap.size w2.heap.size G nb ca (.slice (some ⟨B,0,none⟩) nb cb) (m:Int) vs2 M basis)/\Hid (Ext w1 wr))
   case atStart=>exact ⟨0,vs,rows.set r mm,ae (by omega),rfl,ae (by simp only [pivN,HTR.out.1]),HT0,HX⟩
   case round =>
    obtain ⟨g2,h_g2⟩:∃ x,x=gk:=⟨_,rfl⟩;subst h_g2;obtain ⟨wr2,h_wr2⟩:∃ x,x=wr:=⟨_,rfl⟩;subst h_wr2;obtain ⟨k,vs2,M,HK2,rfl,HPN,HT2,HX2⟩:=hrel;clear p0;have hsr2:=HX2.out.size;by_cases hlt2:k<nb
    ·obtain ⟨zb2,zoff2,ya,yn,yc,hza2,hzk,hrowk⟩:=(HH.out.ext (X1.out.trans HX2.out)).at hlt2;simp only [Option.some.injEq,Addr.mk.injEq,and_true] at hza2;obtain ⟨rfl,rfl⟩:=hza2;obtain rfl:yn=zn:=by rw [<-hrowk.hlen,<-HRW.out,<-HLW.out,HRL.out k hlt2,HRL.out r hrb]
     have HRK:=ae (show Rats wr2 ya yn yc (T.row k) by rw [HRW.out];exact hrowk);obtain ⟨yb,yoff,p,q,hya,hpq,hy0,hy1⟩:=HRK.out.at hcu;subst hya;have HPQ:=ae (show T.at k c=(p,q) from hpq);have hyk1:=hrowk.hcap;have hyk2:=hrowk.hmax;clear hpq hrowk;have HSK:=ae (show decide (k=r ∨ T.at k c=(0,1))=(decide (k=r)||((p == 0)&&(q == 1))) by rw [HPQ.out,Bool.eq_iff_iff];simp);go_upto_region 16 with fail
     go_cut [102] (fun s102 wx=>s102=.bool (decide (k=r ∨ T.at k c=(0,1)))/\Hid (Ext wr2 wx))
     case first =>
      have hk2:Ext wr2 wr2.drew:=Ext.drew wr2;by_cases hkr:k=r
      ·have heq:((k:Int) == (r:Int))=true:=by simp;omega
       have HE9:=ae (show decide (k=r ∨ T.at k c=(0,1))=true by rw [HSK.out,decide_eq_true hkr];rfl);clear hkr;refine wp_region_held_drew (S:=(fun w'=>w'.cell? ⟨yb,yoff+c*2,none⟩=some (.int .i64 p)/\w'.cell? ⟨yb,yoff+c*2+1,none⟩=some (.int .i64 q)/\Ext wr2 w')) (by kernel_rfl) ?_ (fun hHeld=>?_)
       ·exact ⟨hk2.cellSome hy0,hk2.cellSome hy1,hk2⟩
       refine tk 0 ?_;refine tk 1 ?_;refine tk 2 ?_;refine tk 3 ?_;refine sk 4 ?_;refine sk 5 ?_;refine sk 6 ?_;refine sk 7 ?_;refine sk 8 ?_;refine sk 9 ?_;refine tk 10 ?_;refine wpAnyH_done (by kernel_rfl) ?_ _;go_wp2_with fail;go_meet;exact ⟨by rw [HE9.out],ae hk2⟩
      ·have heq:((k:Int) == (r:Int))=false:=by simp;omega
       have HE9:=ae (show decide (k=r ∨ T.at k c=(0,1))=((p == 0)&&(q == 1)) by rw [HSK.out,decide_eq_false hkr];rfl);clear hkr;cases h1:(p == 0)
       all_goals
        cases h2:(q == 1)
       all_goals
        have HE8:=ae HE9.out;rw [h1,h2] at HE8;refine wp_region_held_drew (S:=(fun w'=>w'.cell? ⟨yb,yoff+c*2,none⟩=some (.int .i64 p)/\w'.cell? ⟨yb,yoff+c*2+1,none⟩=some (.int .i64 q)/\Ext wr2 w')) (by kernel_rfl) ?_ (fun hHeld=>?_)
        ·exact ⟨hk2.cellSome hy0,hk2.cellSome hy1,hk2⟩
        refine tk 0 ?_;refine tk 1 ?_;refine tk 2 ?_;refine tk 3 ?_;refine tk 4 ?_;refine tk 5 ?_;refine tk 6 ?_;refine tk 7 ?_;refine rd (i:=8) (h:=fun K hK=>?_);go_simp
        (go_at_call 112;refine (cK _ _).mono ?_;rintro e w3 ⟨rfl,hx3⟩;have hk2:=hk2.trans hx3)
        go_wp2_with fail;refine hK.out _ _ ?_ (fun hHeld=>?_)
        ·exact ⟨hk2.cellSome hy0,hk2.cellSome hy1,hk2⟩
        clear hK K
        try simp only [Act.put,sA,sB,sC]
        refine tk 9 ?_;refine tk 10 ?_;refine wpAnyH_done (by kernel_rfl) ?_ _;go_wp2_with fail;go_meet;exact ⟨by rw [HE8.out];rfl,ae hk2⟩
     obtain ⟨rfl,HXC⟩:=hcut;have HT3:=ae (HT2.out.ext HXC.out);have HX3:=ae (HX2.out.trans HXC.out);have HRK3:=ae (HRK.out.ext HXC.out);replace hy0:=HXC.out.cellSome hy0;replace hy1:=HXC.out.cellSome hy1;clear hzk;cases hsk:decide (k=r ∨ T.at k c=(0,1))
     ·have HNS:=ae (of_decide_eq_false hsk);clear hsk;have HPM:=ae (np (t:=T) (by rw [HTR.out.1,HLR.out];exact hrb) HPN.out);obtain ⟨mg,mcap,hvm,hcm,hom,_,_,_,hmc1,hmc2⟩:=HT3.out.m.row hrb (n:=mm.length) (by rw [HPM.out.2]) (by rw [cI HMM.out];omega);rw [HPM.out.2] at hom;have HOM:=ae hom.rats;have HML:=ae (cI HMM.out);obtain ⟨mn,hmn⟩:∃ n,n=mm.length:=⟨_,rfl⟩;rw [<-hmn] at hcm HOM HML;have hmn2:mn<=200000:=by have:=HML.out;omega
      have c8:=HT3.out.c0;have hp0:-9223372036854775807<=p:=by have:=HVAL.out k c;rw [HPQ.out] at this;exact this.1
      have hp1:p<=9223372036854775807:=by have:=HVAL.out k c;rw [HPQ.out] at this;exact this.2
      have HSC:=ae (fun (wz:World) (z1:Option Addr) (z2 z3:Nat) (z4:Option Addr) (z5 z6:Nat) (h1:Rats wz z1 z2 z3 (T.row k)) (h2:Rats wz z4 z5 z6 mm) (h3:z2<=1048576)=>kd (k1:=-p) (k2:=q) h1 h2 h3);obtain ⟨sv,hsv⟩:∃ s,s=sclL (T.row k) (-p,q) mm:=⟨_,rfl⟩;have HSV:=ae (show pivN T r c mm (k+1)=sv.map fun x=>M.set k x by rw [hsv,qx HPN.out HNS.out,HPQ.out];rfl);simp only [<-hsv] at HSC;clear hsv hvm hom hmn;go_upto_region 17 with fail;have hk2:Ext wc wc.drew:=Ext.drew wc;have hka:=hk2;have HKEEP:=ae (fun (w':World) (h:Ext wc w')=>(⟨h.cellSome hy0,h.cellSome hy1,h.cellSome c8,h.cellSome hcm,h⟩:w'.cell? ⟨yb,yoff+c*2,none⟩=some (.int .i64 p)/\w'.cell? ⟨yb,yoff+c*2+1,none⟩=some (.int .i64 q)/\w'.cell? ⟨w2.heap.size,0,none⟩=some (.slice (some ⟨G,0,none⟩) nb ca)/\w'.cell? ⟨G,r,none⟩=some (.slice (some ⟨mg,0,none⟩) mn mcap)/\Ext wc w'))
      go_region_held3 (fun w'=>w'.cell? ⟨yb,yoff+c*2,none⟩=some (.int .i64 p)/\w'.cell? ⟨yb,yoff+c*2+1,none⟩=some (.int .i64 q)/\w'.cell? ⟨w2.heap.size,0,none⟩=some (.slice (some ⟨G,0,none⟩) nb ca)/\w'.cell? ⟨G,r,none⟩=some (.slice (some ⟨mg,0,none⟩) mn mcap)/\Ext wc w')
       (with_reducible exact HKEEP.out _ hk2)
       (first
         | (go_at_call 137
            (with_reducible refine (el p q _ hp0 hp1).mono ?_)
            rintro e w3 ⟨rfl,hx_w3⟩;have hk2:Ext wc w3:=hk2.trans hx_w3
            have hs_w3:=hk2.size)
         | (go_at_call 141
            (with_reducible refine (HSC.out _ _ _ _ _ _ _ (HRK3.out.ext (by first|with_reducible exact hk2|with_reducible exact hka|with_reducible exact hk2.trans (Ext.alloc _ _))) (HOM.out.ext (by first|with_reducible exact hk2|with_reducible exact hka|with_reducible exact hk2.trans (Ext.alloc _ _))) (by omega)).mono ?_)
            rintro e w4 ⟨⟨v4,rfl,ho4⟩,hx_w4⟩;have hs4':=hk2.size;obtain ⟨a4,n4,c4,rfl,hn4⟩:=ho4.var;have hk2:Ext wc w4:=hk2.trans hx_w4
            have hs_w4:=hk2.size)
         | fail)
      clear HKEEP hka;have HX4:=ae (HX3.out.trans hk2);have HT4:=ae (HT3.out.ext hk2);have HO4:=ae (ho4.mono hs4');have HK4:=ae hk2;clear hk2 ho4 hy0 hy1 c8 hcm;cases sv with
      | none =>
        have HN:=ae (show bu T (r:Int) (c:Int)=none by rw [HPG.out,nq (k:=k+1) (by rw [HSV.out];rfl) hlt2];rfl);have xf:=(X1.out.trans HX4.out);have p0:=aq (xf.blk HTB.out);have p1:=aw (xf.blk HTB.out);have p2:=az (xf.blk HTB.out);have XF:=ae xf;clear xf;go_wp2_with fail;refine (HCL.out _ XF.out).mono ?_;rintro e w8 ⟨⟨va8,vb8,vs8,rfl,ho8⟩,hx⟩;have X8:=ae (XF.out.trans hx);have HO8:=ae ho8;obtain ⟨a7,n7,c7,rfl,HN7⟩:=ho8.a.var;obtain ⟨a8,n8,c8,rfl,HN8⟩:=ho8.b.var;have r0:=aq (X8.out.blk HGB.out);have r1:=aw (X8.out.blk HGB.out);have r2:=az (X8.out.blk HGB.out);have rf:=cU (X8.out.blk HGB.out);have hsz:=XF.out.size;have hww:=HSW.out;clear hx ho8 p0 p1 p2;go_wp2_with fail;refine bodyPost_ret (v:=.tuple #[.agg #[.slice a7 n7 c7,.slice a8 n8 c8,.int .i64 (m:Int)],.bool false]) (by simp [results,Tryz.results55,go_sem,r0,r1,r2,rf]) rfl ⟨?_,(HX0.out.trans X8.out).set3 (Nat.le_succ _) _ _ _⟩;refine ⟨.slice a7 n7 c7,.slice a8 n8 c8,vs8,?_,?_⟩
        ·unfold dl;rw [HN.out,Option.getD_none,HCM.out];rfl
        ·unfold dl;rw [HN.out,Option.getD_none];exact (HO8.out.keepAll fun k hk=>cG _ _ _ _ _ _ (by omega)).mono (by omega)
      | some nr =>
        have c8:=HT4.out.c0;obtain ⟨G',hG',hbG,hGc⟩:=HT4.out.m.own.cell hlt2;simp only [Option.some.injEq,Addr.mk.injEq,and_true] at hG';subst hG';have hgk:w4.cell? ⟨G,k,none⟩=some (vs2[k]?.getD undef):=by
         rw [hGc k hlt2];have:k<vs2.length:=by rw [HT4.out.m.vlen];exact hlt2
         simp [this]
        obtain ⟨G',hG',_,_,hfr⟩:=HT4.out.m.outer (by omega);simp only [Option.some.injEq,Addr.mk.injEq,and_true] at hG';subst hG';have HT5:=ae (HT3.out.put HK4.out (by have:=HX3.out.size;omega) HO4.out hlt2);have HX5:=ae (HX4.out.setCell (p:=⟨G,k,none⟩) hbG (.slice a4 n4 c4));have HP5:=ae (show pivN T r c mm (k+1)=some (M.set k nr) by rw [HSV.out];rfl);clear hGc;go_wp2_with fail
        go_roundg (g2-1)
        case measure=>have:=HK2.out;omega
        case rel=>exact ⟨k+1,_,_,ae (by have:=HK2.out;omega),by go_num,HP5,HT5,HX5⟩
     ·have HS1:=ae (ns HPN.out (of_decide_eq_true hsk));clear hsk;go_wp2_with fail
      go_roundg (g2-1)
      case measure=>have:=HK2.out;omega
      case rel=>exact ⟨k+1,vs2,M,ae (by have:=HK2.out;omega),by go_num,HS1,HT3,HX3⟩
    ·have hkn:nb=k:=by have:=HK2.out;omega
     subst hkn;have HN:=ae (show bu T (r:Int) (c:Int)=some ⟨M,basis.set r (c:Int),(m:Int)⟩ by rw [HPG.out,HPN.out];rfl);have c81:=aw HT2.out.box;obtain ⟨B',off',hB',hbc⟩:=HT2.out.b.ints.at hrb;simp only [Option.some.injEq,Addr.mk.injEq,and_true] at hB';obtain ⟨rfl,rfl⟩:=hB';obtain ⟨B',hB',hbB,hbf,_⟩:=HT2.out.b.block hrb;simp only [Option.some.injEq,Addr.mk.injEq,and_true] at hB';subst hB';rw [Nat.zero_add] at hbc;have HT9:=ae (HT2.out.putB r (c:Int));have HX9:=ae (HX2.out.setCell (p:=⟨B,r,none⟩) hbB (.int .i64 (c:Int)));go_upto_region 23 with fail;obtain ⟨W9,hW9⟩:∃ x,x=wr2.setCell ⟨B,r,none⟩ (.int .i64 (c:Int)):=⟨_,rfl⟩;rw [<-hW9] at HT9 HX9 ⊢;clear hW9 c81 hbc hbf;have r0:=aq ((X1.out.trans HX9.out).blk HGB.out);have r1:=aw ((X1.out.trans HX9.out).blk HGB.out);have r2:=az ((X1.out.trans HX9.out).blk HGB.out);have rf:=cU ((X1.out.trans HX9.out).blk HGB.out);have t0:=aq HT9.out.box;have t1:=aw HT9.out.box;have t2:=az HT9.out.box;go_wp2_with fail;refine bodyPost_ret (v:=.tuple #[.agg #[.slice (some ⟨G,0,none⟩) nb ca,.slice (some ⟨B,0,none⟩) nb cb,.int .i64 (m:Int)],.bool true]) (by simp [results,Tryz.results55,go_sem,r0,r1,r2,rf]) rfl ⟨?_,((HX0.out.trans X1.out).trans HX9.out).set3 (Nat.le_succ _) _ _ _⟩;refine ⟨.slice (some ⟨G,0,none⟩) nb ca,.slice (some ⟨B,0,none⟩) nb cb,vs2,?_,?_⟩
     ·unfold dl;rw [HN.out,Option.getD_some];rfl
     ·unfold dl;rw [HN.out,Option.getD_some];exact (HT9.out.own.keepAll fun k hk=>cG _ _ _ _ _ _ (by omega)).mono (by omega)
theorem mj (h:TbC w ra rn rc ba bn bc t) (hrn:rn<=100000) (hbn:bn<=100000) (hrl:∀ i,i<rn->(t.row i).length<=1048576) (hval:∀ i j,-9223372036854775807<=(t.at i j).1/\(t.at i j).1<=9223372036854775807) (row col:Int) :
 Calls Tryz.prog 55 #[tbW ra rn rc ba bn bc t.cols,.int .i64 row,.int .i64 col] w fun e w'=>PivR w' w.heap.size e (dl t row col) (bu t row col).isSome/\Ext w w':=by
 cases hp:dU t row col
 ·have e:=tr hp;unfold dl;rw [e];exact lq h hrn hbn hrl row col hp
 ·exact ls h hrn hbn hval row col hp
end
end Go.Proofs.YthjjfkeacobikaaGreat
