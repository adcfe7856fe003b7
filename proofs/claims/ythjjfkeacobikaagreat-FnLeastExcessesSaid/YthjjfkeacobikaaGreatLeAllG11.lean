import Derived.Test.YthjjfkeacobikaaGreatLeAllG6
import Derived.Test.YthjjfkeacobikaaGreatLeAllG5
import Derived.Deep.DeepCutAuto
import Derived.Test.YthjjfkeacobikaaGreatLeAllG10
import Derived.Test.YthjjfkeacobikaaGreatLeAllG0
import Derived.Deep.RegionHeld3
import Derived.Test.YthjjfkeacobikaaGreatLeAllG8
import Derived.Test.YthjjfkeacobikaaGreatLeAllG7
set_option linter.unusedVariables false
set_option linter.unusedSimpArgs false
namespace Go.Proofs.YthjjfkeacobikaaGreat
open Go.RowKit
def allV (l:List (Int × Int)):Bool:=l.all valR
theorem rP {p:Int × Int->Bool} {l:List (Int × Int)} {k:Nat} (h:k<l.length):(l.take (k+1)).all p=((l.take k).all p&&p (l[k]?.getD (0,0))):=by
 rw [ev h];simp
theorem qI {p:Int × Int->Bool} {l:List (Int × Int)} {k:Nat} (h:k<l.length) (hb:p (l[k]?.getD (0,0))=false):l.all p=false:=by
 rw [List.all_eq_false];exact ⟨l[k],List.getElem_mem h,by rw [List.getElem?_eq_getElem h] at hb;simpa using hb⟩
set_option maxHeartbeats 1000000 in
theorem gN {w:World} {a:Option Addr} {n cap:Nat} {l:List (Int × Int)} (h:Rats w a n cap l) :
 Calls Tryz.prog 148 #[.slice a n cap] w fun e w'=>e=.returned (.bool (allV l))/\Ext w w':=by
 have hcap:=h.hcap;have hmax:=h.hmax;have HL:=ae h.hlen;have HI:=ae h;clear h;go_enter Tryz.func148,Tryz.ntmps148
 go_wp2_with fail
 go_loopg [3] n (fun gk ii wr=>∃ k:Nat,Hid (gk+k=n)/\ii=.int .i64 (k:Int)/\Hid ((l.take k).all valR=true)/\Hid (Ext w wr))
 case atStart=>exact ⟨0,ae (by omega),rfl,ae rfl,ae (Ext.refl _)⟩
 case round =>
  obtain ⟨g1,h_g1⟩:∃ x,x=gk:=⟨_,rfl⟩;subst h_g1;obtain ⟨wr1,h_wr1⟩:∃ x,x=wr:=⟨_,rfl⟩;subst h_wr1;obtain ⟨k,HK,rfl,HA,HX⟩:=hrel;by_cases hlt:k<n
  ·obtain ⟨b,off,x,y,rfl,hxy,hc0,hc1⟩:=(HI.out.ext HX.out).at hlt;have HC:=ae (aI x y wr1);cases hb:valR (x,y)
   all_goals
    rw [hb] at HC
   ·have HF:=ae (show allV l=false from qI (by rw [HL.out];exact hlt) (by rw [hxy];exact hb));clear hxy hb;go_wp2_with fail;refine HC.out.mono ?_;rintro e w2 ⟨rfl,hx2⟩;go_wp2_with fail;go_ret;exact ⟨ag HF.out.symm,HX.out.trans hx2⟩
   ·have HT:=ae (show (l.take (k+1)).all valR=true by rw [rP (by rw [HL.out];exact hlt),HA.out,hxy,hb];rfl);clear hxy hb;go_wp2_with fail;refine HC.out.mono ?_;rintro e w2 ⟨rfl,hx2⟩;go_wp2_with fail
    go_roundg (g1-1)
    case measure=>have:=HK.out;omega
    case rel=>exact ⟨k+1,ae (by have:=HK.out;omega),by go_num,HT,ae (HX.out.trans hx2)⟩
  ·have HT:=ae (show l.take k=l from List.take_of_length_le (by rw [HL.out];have:=HK.out;omega));go_wp2_with fail;go_ret;exact ⟨ag (by have:=HA.out;rw [HT.out] at this;exact this.symm),HX.out⟩
set_option maxRecDepth 100000
theorem cK (n:Int) (w:World):Calls Tryz.prog 112 #[.int .i64 n] w fun e w'=>e=.returned (ratV n 1)/\Ext w w':=by
 have HX:=ae (Ext.alloc w (.cells #[.int .i64 n,.int .i64 1] 43));go_enter Tryz.func112,Tryz.ntmps112
 go_wp2
 refine bodyPost_ret (v:=ratV n 1) (by simp [results,Tryz.results112,go_sem]) rfl ⟨rfl,HX.out⟩
theorem bJ (n:Int) (w:World):Calls Tryz.prog 86 #[.int .i64 n] w fun e w'=>e=.returned (ratV n 1)/\Ext w w':=by
 have HX:=ae (Ext.alloc w (.cells #[.int .i64 n,.int .i64 1] 43));go_enter Tryz.func86,Tryz.ntmps86
 go_wp2
 refine bodyPost_ret (v:=ratV n 1) (by simp [results,Tryz.results86,go_sem]) rfl ⟨rfl,HX.out⟩
theorem s_l2Good (s:Int) (w:World):Calls Tryz.prog 262 #[.int .i64 s] w fun e w'=>e=.returned (.bool (inB s 0 31))/\w=w':=by
 go_enter Tryz.func262,Tryz.ntmps262
 go_wp2_with (first|(go_at_call 95;refine (bw _ _ _ _).mono ?_;rintro e w' ⟨rfl,rfl⟩));go_ret;exact ⟨rfl,rfl⟩
set_option maxHeartbeats 1000000 in
theorem pU (s:Nat) (hs:s<32) (w:World) :
 Calls Tryz.prog 215 #[.int .i64 (s:Int)] w fun e w'=>(∃ v,e=.returned v/\OwnI w' w.heap.size v (memI (s:Int) 5))/\Ext w w':=by
 have hin:inB (s:Int) 0 31=true:=by unfold inB;simp;omega
 have HG:=ae (fun w'=>s_l2Good (s:Int) w');rw [hin] at HG;have HO:=ae (OwnI.madeS w w.heap.size _ rfl (Nat.le_refl _));clear hin;go_enter Tryz.func215,Tryz.ntmps215
 go_wp2_with fail
 go_loopg [3,4] 5 (fun gk o i wr=>∃ (k:Nat) (a1:Option Addr) (n1 c1:Nat),Hid (gk+k=5)/\i=.int .i64 (k:Int)/\o=.slice a1 n1 c1/\Hid (OwnI wr w.heap.size (.slice a1 n1 c1) (memI (s:Int) k))/\Hid (Ext w wr))
 case atStart=>exact ⟨0,_,_,_,ae (by omega),rfl,rfl,HO,ae (Ext.alloc _ _)⟩
 case round =>
  obtain ⟨g1,h_g1⟩:∃ x,x=gk:=⟨_,rfl⟩;subst h_g1;obtain ⟨wr1,h_wr1⟩:∃ x,x=wr:=⟨_,rfl⟩;subst h_wr1;obtain ⟨k,a1,n1,c1,HK,rfl,rfl,HO1,HX1⟩:=hrel;have hsz:=HX1.out.size;by_cases hlt:k<5
  ·have HB:=ae (iI (s:Int) k (by omega) (by omega));cases hbit:bit (s:Int) k
   ·rw [hbit] at HB;have HS:=ae hbit;clear hbit;go_wp2_with (first|(go_at_call 262;refine (HG.out _).mono ?_;rintro e w3 ⟨rfl,rfl⟩)|(go_at_call 79;refine (dN _ _ _ (by omega)).mono ?_;rw [HB.out];rintro e w3 ⟨rfl,rfl⟩))
    go_roundg (g1-1)
    case measure=>have:=HK.out;omega
    case rel=>exact ⟨k+1,a1,n1,c1,ae (by have:=HK.out;omega),by go_num,rfl,ae (by rw [ip,HS.out];simpa using HO1.out),HX1⟩
   ·rw [hbit] at HB;have HS:=ae hbit;clear hbit
    go_wp2_with (first
     | (go_at_call 262;refine (HG.out _).mono ?_;rintro e w3 ⟨rfl,rfl⟩)
     | (go_at_call 79;refine (dN _ _ _ (by omega)).mono ?_;rw [HB.out];rintro e w3 ⟨rfl,rfl⟩)
     | (at_builtin;refine bm rfl _ _ rfl w.heap.size (.slice a1 n1 c1) _ rfl (HO1.out.ext (Ext.alloc _ _)) _ 1 _ [(k:Int)] rfl (Ints.oneS _ _ _ _ (by simp)) (by have:=memI_len (s:Int) k;omega) (by simp;omega) ?_;intro v2 w3 ho hg hnear;have X5:=ae ((HX1.out.trans (Ext.alloc _ _)).grown hg (fun j hj=>(HO1.out.lt j hj).1));obtain ⟨a2,n2,c2,rfl,HN2⟩:=ho.var;have HO4:=ae ho;clear ho hg hnear))
    go_roundg (g1-1)
    case measure=>have:=HK.out;omega
    case rel=>exact ⟨k+1,a2,n2,c2,ae (by have:=HK.out;omega),by go_num,rfl,ae (by rw [ip,HS.out];exact HO4.out),X5⟩
  ·have hk5:k=5:=by have:=HK.out;omega
   subst hk5;go_wp2_with (first|(go_at_call 262;refine (HG.out _).mono ?_;rintro e w3 ⟨rfl,rfl⟩));go_ret;exact ⟨⟨_,rfl,HO1.out⟩,HX1.out⟩
def payT (X:List (Int × Int)):List Int->Int × Int->Option (Int × Int)
 | [],a=>some a
 | k :: l,a=>if (X.length:Int)<=k then none else if (addR a (X[k.toNat]?.getD (0,0))).2=true then payT X l (addR a (X[k.toNat]?.getD (0,0))).1 else none
theorem eZ (X:List (Int × Int)):∀ (l l':List Int) (a:Int × Int),payT X (l++l') a=(payT X l a).bind (payT X l')
 | [],l',a=>rfl
 | k :: l,l',a=>by
   simp only [List.cons_append,payT]
   split
   ·rfl
   ·split
    ·exact eZ X l l' _
    ·rfl
def cM (X:List (Int × Int)) (s:Nat):Option (Int × Int):=payT X (memI (s:Int) 5) (0,1)
theorem ni {X:List (Int × Int)} {l:List Int} {k:Nat} {a b:Int × Int} (hk:k<l.length) (h:payT X (l.take k) a=some b) (hf:payT X [l[k]?.getD 0] b=none):payT X l a=none:=by
 have e:l=l.take k++(l[k]?.getD 0 :: l.drop (k+1)):=by
  rw [List.getElem?_eq_getElem hk,Option.getD_some,<-List.drop_eq_getElem_cons hk,List.take_append_drop]
 rw [e,eZ,h]
 show payT X (l[k]?.getD 0 :: l.drop (k+1)) b=none;simp only [payT] at hf ⊢
 split
 ·rfl
 ·next h1 =>
  rw [if_neg h1] at hf
  split
  ·next h2=>rw [if_pos h2] at hf;cases hf
  ·rfl
theorem tp {X:List (Int × Int)} {l:List Int} {k:Nat} {a b c:Int × Int} (hk:k<l.length) (h:payT X (l.take k) a=some b) (hf:payT X [l[k]?.getD 0] b=some c):payT X (l.take (k+1)) a=some c:=by
 rw [cw hk,eZ,h];exact hf
set_option maxHeartbeats 4000000 in
theorem nG {w:World} {a:Option Addr} {n cap:Nat} {X:List (Int × Int)} (h:Rats w a n cap X) (s:Nat) (hs:s<32) :
 Calls Tryz.prog 149 #[.slice a n cap,.int .i64 (s:Int)] w fun e w'=>e=.returned (resR ((cM X s).getD (0,0),(cM X s).isSome))/\Ext w w':=by
 have HL:=ae h.hlen;have hcap:=h.hcap;have hmax:=h.hmax;have hx0:=Ext.alloc w (.cells #[.int .i64 0,.int .i64 0] 43);have HI:=ae (h.ext hx0);have HX0:=ae hx0;have HRB:=ae (show (w.alloc (.cells #[.int .i64 0,.int .i64 0] 43)).heap[w.heap.size]?=some (.cells #[.int .i64 0,.int .i64 0] 43 (0,0)) from aj _ _ _ rfl);clear h hx0;go_enter Tryz.func149,Tryz.ntmps149
 go_wp2_with fail;refine (bJ 0 _).mono ?_;rintro e w1 ⟨rfl,hx1⟩;have HX1:=ae hx1;have hs31:¬ ((s:Int) > 31):=by omega
 have hs0:¬ ((s:Int)<0):=by omega
 clear hx1;go_wp2_with fail;refine (pU s hs _).mono ?_;rintro e w2 ⟨⟨v2,rfl,ho2⟩,hx2⟩;obtain ⟨am,nm,cm,rfl,hnm⟩:=ho2.var;have HOM:=ae ho2;have HB0:=ae ((ah.new (Ext.refl w1) 0 1).grow hx2);have HNM:=ae hnm.out;have hmcap:=ho2.ints.hcap;have hmmax:=ho2.ints.hmax;clear ho2 hx2 hnm;obtain ⟨mem,hmem⟩:∃ l,l=memI (s:Int) 5:=⟨_,rfl⟩;have HMA:=ae (fun i h=>memI_at (s:Int) i h);rw [<-hmem] at HOM HNM HMA;have HMEM:=ae (show cM X s=payT X mem (0,1) by unfold cM;rw [hmem]);clear hmem;have HRW:=ae (fun (w':World) (hx:Ext w1 w')=>(hx.block _ (by have:=lt_of_block HRB.out;have:=HX1.out.size;omega)).trans ((HX1.out.block _ (lt_of_block HRB.out)).trans HRB.out));have HXW:=ae (HX0.out.trans HX1.out);have hsw1:w.heap.size<w1.heap.size:=by have:=lt_of_block HRB.out;have:=HX1.out.size;omega
 go_wp2_with fail
 go_loopg [8] nm (fun gk ii wr=>∃ (k:Nat) (p q:Int),Hid (gk+k=nm)/\ii=.int .i64 (k:Int)/\Hid (ah w1 wr w1.heap.size p q)/\Hid (payT X (mem.take k) (0,1)=some (p,q))/\Hid (OwnI wr w1.heap.size (.slice am nm cm) mem))
 case atStart=>exact ⟨0,0,1,ae (by omega),rfl,HB0,ae rfl,ae (HOM.out.mono (by simp))⟩
 case round =>
  obtain ⟨g1,h_g1⟩:∃ x,x=gk:=⟨_,rfl⟩;subst h_g1;obtain ⟨wr1,h_wr1⟩:∃ x,x=wr:=⟨_,rfl⟩;subst h_wr1;obtain ⟨k,p,q,HK,rfl,HB,HT,HM⟩:=hrel;have hb0:=HB.out.c0;have hb1:=HB.out.c1;have hbl:=HB.out.lt;have hszb:=HB.out.ext.size;by_cases hlt:k<nm
  ·have hkl:k<mem.length:=by rw [HNM.out];exact hlt
   obtain ⟨j,hj,hj5,_,_⟩:=HMA.out k hkl;obtain ⟨lb,loff,hle,hlc⟩:=HM.out.ints.at hlt;subst hle;rw [hj] at hlc;by_cases hjn:j<n
   ·obtain ⟨xb,xoff,x,y,hxe,hxy,hxc,hxd⟩:=(HI.out.ext (HX1.out.trans HB.out.ext)).at hjn;subst hxe;have hjX:¬ (X.length:Int)<=(j:Int):=by rw [HL.out];omega
    obtain ⟨p2,q2,ok,hpq⟩:∃ p2 q2 ok,addR (p,q) (x,y)=((p2,q2),ok):=⟨_,_,_,rfl⟩;have HPQ:=ae hpq
    have HST:=ae (show payT X [mem[k]?.getD 0] (p,q)=if ok=true then some (p2,q2) else none by
     rw [hj];simp only [payT];rw [if_neg hjX,Int.toNat_natCast,hxy,hpq])
    have HKL:=ae hkl;clear hj hpq hxy hkl hjX;go_upto_region 10 with fail
    go_cut [9,10] (fun sx so wx=>∃ g:Nat,sx=.pointer (some ⟨g,0,none⟩)/\so=.bool ok/\Hid (ah wr1 wx g p2 q2))
    case first =>
     have hk2:Ext wr1 wr1.drew:=Ext.drew wr1;have hka:Ext wr1 (wr1.alloc (.cells #[.int .i64 0,.int .i64 0] 43)).drew:=(Ext.alloc _ _).trans (Ext.drew _);have HKEEP:=ae (fun (w':World) (h:Ext wr1 w')=>(⟨h.cellSome hb0,h.cellSome hb1,h.cellSome hlc,h.cellSome hxc,h.cellSome hxd,h⟩:w'.cell? ⟨w1.heap.size,0,none⟩=some (.int .i64 p)/\w'.cell? ⟨w1.heap.size,1,none⟩=some (.int .i64 q)/\w'.cell? ⟨lb,loff+k,none⟩=some (.int .i64 (j:Int))/\w'.cell? ⟨xb,xoff+j*2,none⟩=some (.int .i64 x)/\w'.cell? ⟨xb,xoff+j*2+1,none⟩=some (.int .i64 y)/\Ext wr1 w'))
     go_region_held3 (fun w'=>w'.cell? ⟨w1.heap.size,0,none⟩=some (.int .i64 p)/\w'.cell? ⟨w1.heap.size,1,none⟩=some (.int .i64 q)/\w'.cell? ⟨lb,loff+k,none⟩=some (.int .i64 (j:Int))/\w'.cell? ⟨xb,xoff+j*2,none⟩=some (.int .i64 x)/\w'.cell? ⟨xb,xoff+j*2+1,none⟩=some (.int .i64 y)/\Ext wr1 w')
      (first
        | with_reducible exact HKEEP.out _ hk2
        | with_reducible exact HKEEP.out _ hka
        | with_reducible exact HKEEP.out _ ((hk2.setCell (by first|(simp;done)|(simp;omega)) _).setCell (by first|(simp;done)|(simp;omega)) _)
        | with_reducible exact HKEEP.out _ (hk2.trans (Ext.alloc _ _))
        | with_reducible exact HKEEP.out _ (hBB.put _ _).ext)
      (first
        | (go_at_call 37
           (with_reducible refine (iW _ _ _ _ _).mono ?_)
           rw [HPQ.out];rintro e w5 ⟨rfl,hx_w5⟩
           first|(with_reducible have hBB:=ah.grow hBB hx_w5)|(with_reducible have hBB:=ah.firstD hx_w5)|(with_reducible have hBB:=ah.laterD hk2 hx_w5)|skip
           first|(have b0_:=hBB.c0;have b1_:=hBB.c1;have fb_:=hBB.free)|skip
           have hk2:Ext wr1 w5:=by first|with_reducible exact hk2.trans hx_w5|with_reducible exact hka.trans hx_w5|with_reducible exact (hk2.trans (Ext.alloc _ _)).trans hx_w5
           have hk2s:=hk2.size)
        | fail)
     all_goals (go_wp2_with fail;go_meet;first|exact ⟨_,rfl,rfl,ae (hBB.put _ _)⟩|exact ⟨_,rfl,rfl,ae (ah.new hk2 _ _)⟩|exact ⟨_,rfl,rfl,ae (ah.new' hk2 _ _ (by simp))⟩)
    obtain ⟨g,rfl,rfl,HB2⟩:=hcut;have g0:=HB2.out.c0;have g1':=HB2.out.c1;have hB3:=HB.out.grow HB2.out.ext;have hX3:=hB3.ext;have hm3:=HM.out.ext HB2.out.ext;have hb0':=hB3.c0;have hb1':=hB3.c1;have hbf:=hB3.free;have HB3:=ae hB3;have HX3:=ae hX3;have HM3:=ae hm3;clear hb0 hb1 hlc hxc hxd hB3 hX3 hm3;cases ok
    ·have HN:=ae (show cM X s=none by rw [HMEM.out];exact ni HKL.out HT.out (by rw [HST.out];rfl));have hr:=ai (HRW.out wc HX3.out);obtain ⟨hr0,hr1,hrf⟩:=hr;go_wp2_with fail;refine bodyPost_ret (v:=.tuple #[.agg #[.int .i64 0,.int .i64 0],.bool false]) (by simp [results,Tryz.results149,go_sem,hr0,hr1]) rfl ⟨by rw [HN.out];rfl,(((HXW.out.trans HX3.out).store 0 (Nat.le_refl _) _).store 1 (Nat.le_refl _) _)⟩
    ·have HT2:=ae (tp HKL.out HT.out (by rw [HST.out];rfl))
     have HM4:=ae (show OwnI ((wc.setCell ⟨w1.heap.size,0,none⟩ (.int .i64 p2)).setCell ⟨w1.heap.size,1,none⟩ (.int .i64 q2)) w1.heap.size (.slice (some ⟨lb,loff,none⟩) nm cm) mem from
      HM3.out.keep fun i hi=>by
       have:i ≠ w1.heap.size:=fun e=>ap HM3.out HB3.out.cell (by decide) (by rw [hi,e])
       rw [heap_setCell_other _ _ _ _ this,heap_setCell_other _ _ _ _ this])
     have HB4:=ae (HB3.out.put p2 q2);go_wp2_with fail
     go_roundg (g1-1)
     case measure=>have:=HK.out;omega
     case rel=>exact ⟨k+1,p2,q2,ae (by have:=HK.out;omega),by go_num,HB4,HT2,HM4⟩
   ·have hjX:(X.length:Int)<=(j:Int):=by rw [HL.out];omega
    have HN:=ae (show cM X s=none by rw [HMEM.out];exact ni hkl HT.out (by rw [hj];simp only [payT];rw [if_pos hjX]));have hr:=ai (HRW.out wr1 HB.out.ext);obtain ⟨hr0,hr1,hrf⟩:=hr;have hge:(j:Int) ≥ (n:Int):=by omega
    clear hj hjX;go_wp2_with fail;refine bodyPost_ret (v:=.tuple #[.agg #[.int .i64 0,.int .i64 0],.bool false]) (by simp [results,Tryz.results149,go_sem,hr0,hr1]) rfl ⟨by rw [HN.out];rfl,(((HXW.out.trans HB.out.ext).store 0 (Nat.le_refl _) _).store 1 (Nat.le_refl _) _)⟩
  ·have hkn:nm=k:=by have:=HK.out;omega
   subst hkn
   have HY:=ae (show cM X s=some (p,q) by
    rw [HMEM.out];have h:=HT.out;rwa [List.take_of_length_le (by rw [HNM.out];exact Nat.le_refl _)] at h)
   have hr:=ai (HRW.out wr1 HB.out.ext);obtain ⟨hr0,hr1,hrf⟩:=hr;go_wp2_with fail;refine bodyPost_ret (v:=.tuple #[.agg #[.int .i64 p,.int .i64 q],.bool true]) (by simp [results,Tryz.results149,go_sem,hr0,hr1]) rfl ⟨by rw [HY.out];rfl,(((HXW.out.trans HB.out.ext).store 0 (Nat.le_refl _) _).store 1 (Nat.le_refl _) _)⟩
def payP (p:Int) (V:List Int) (X:List (Int × Int)):Bool :=
 aN p V&&(decide ((X.length:Int)=p)&&(allV X&&decide (cM X (V.length-1)=some (bz p V,1))))
set_option maxHeartbeats 4000000 in
theorem lR {w:World} {p:Int} {a:Option Addr} {n cap:Nat} {V:List Int} (h:Ints w a n cap V) {b:Option Addr} {m mcap:Nat} {X:List (Int × Int)} (hx:Rats w b m mcap X) :
 Calls Tryz.prog 61 #[pair p a n cap,.slice b m mcap] w fun e w'=>e=.returned (.bool (payP p V X))/\Ext w w':=by
 have HX:=ae (Ext.alloc w (.cells #[.int .i64 p,.slice a n cap] 29));have HL:=ae h.hlen;have HLX:=ae hx.hlen;have HI:=ae (h.ext HX.out);have HR:=ae (hx.ext HX.out);have hxcap:=hx.hcap;have hxmax:=hx.hmax;have HV:=ae (dA (p:=p) HI.out);clear h hx;cases hv:aN p V
 ·rw [hv] at HV;have HP:=ae (show payP p V X=false by unfold payP;rw [hv];rfl);clear hv;go_enter Tryz.func61,Tryz.ntmps61
  go_wp2_with fail;refine HV.out.mono ?_;rintro e w1 ⟨rfl,hx⟩;have X1:=ae (HX.out.trans hx);clear hx;go_wp2_with fail;go_ret;exact ⟨ag HP.out.symm,X1.out⟩
 rw [hv] at HV;obtain ⟨q,rfl,h1,h5,hlen,_,hbd⟩:=bd hv;have HVV:=ae hv;have hN:=cX q h5;obtain ⟨u,rfl⟩:∃ u,n=u+1:=⟨n-1,by have:=HL.out;omega⟩;have hu32:u<=31:=by have:=HL.out;omega
 have HGB:=ae (show -500<=bz (q:Int) V/\bz (q:Int) V<=500 by rw [dZ hv];exact ek hbd _);clear hv hlen hbd hN;by_cases hml:m=q
 ·subst hml;have HAV:=ae (fun (w':World) (hx:Ext (w.alloc (.cells #[.int .i64 (m:Int),.slice a (u+1) cap] 29)) w')=>gN (HR.out.ext hx));cases hav:allV X
  ·have HP:=ae (show payP (m:Int) V X=false by unfold payP;rw [hav];simp);rw [hav] at HAV;clear hav;go_enter Tryz.func61,Tryz.ntmps61
   go_wp2_with fail;refine HV.out.mono ?_;rintro e w1 ⟨rfl,hx⟩;have c0:w1.cell? ⟨w.heap.size,0,none⟩=some (.int .i64 (m:Int)):=hx.cellSome (by simp);have hmm:((m:Int) != (m:Int))=false:=by simp
   have HA1:=ae (HAV.out w1 hx);have X1:=ae (HX.out.trans hx);clear hx;go_wp2_with fail;refine HA1.out.mono ?_;rintro e w2 ⟨rfl,hx2⟩;have X2:=ae (X1.out.trans hx2);clear hx2;go_wp2_with fail;go_ret;exact ⟨ag HP.out.symm,X2.out⟩
  ·rw [hav] at HAV;have HAVV:=ae hav;clear hav;go_enter Tryz.func61,Tryz.ntmps61
   go_wp2_with fail;refine HV.out.mono ?_;rintro e w1 ⟨rfl,hx⟩;have c0:w1.cell? ⟨w.heap.size,0,none⟩=some (.int .i64 (m:Int)):=hx.cellSome (by simp);have c1:w1.cell? ⟨w.heap.size,1,none⟩=some (.slice a (u+1) cap):=hx.cellSome (by simp);have hmm:((m:Int) != (m:Int))=false:=by simp
   have HA1:=ae (HAV.out w1 hx);have X1:=ae hx;clear hx;go_wp2_with fail;refine HA1.out.mono ?_;rintro e w2 ⟨rfl,hx2⟩;have X2:=ae (X1.out.trans hx2);replace c0:=hx2.cellSome c0;replace c1:=hx2.cellSome c1;clear hx2;have hlen1:((u+1:Nat):Int)-1=(u:Int):=by omega
   have HSH:=ae (nG (HR.out.ext X2.out) u (by omega))
   have HPE:=ae (show payP (m:Int) V X=decide (cM X u=some (bz (m:Int) V,1)) by
    unfold payP;rw [HVV.out,HAVV.out,decide_eq_true (by rw [HLX.out]),HL.out];rfl)
   cases hsh:cM X u with
   | none =>
     have HF:=ae (show payP (m:Int) V X=false by rw [HPE.out,hsh];rfl);rw [hsh] at HSH;clear hsh;go_wp2_with fail;refine HSH.out.mono ?_;rintro e w3 ⟨rfl,hx3⟩;have X3:=ae ((HX.out.trans X2.out).trans hx3);clear hx3;go_wp2_with fail
     go_quiet (fail)
     go_wp2_with fail;go_ret;exact ⟨ag HF.out.symm,(X3.out.trans (Ext.alloc _ _)).trans (Drew.ext ⟨_,rfl⟩)⟩
   | some r =>
     obtain ⟨r1,r2⟩:=r
     have HF:=ae (show payP (m:Int) V X=(decide (r1=bz (m:Int) V)&&decide (r2=1)) by
      rw [HPE.out,hsh];simp)
     rw [hsh] at HSH;clear hsh;go_wp2_with fail;refine HSH.out.mono ?_;rintro e w3 ⟨rfl,hx3⟩;replace c0:=hx3.cellSome c0;replace c1:=hx3.cellSome c1;have X3:=ae (X2.out.trans hx3);clear hx3;obtain ⟨E,hE⟩:∃ E,E=w3.alloc (.cells #[.int .i64 r1,.int .i64 r2] 43):=⟨_,rfl⟩;have hxE:Ext w3 E:=by rw [hE];exact Ext.alloc _ _
     have XE:=ae (X3.out.trans hxE);have e0:=hxE.cellSome c0;have e1:=hxE.cellSome c1;have b0:E.cell? ⟨w3.heap.size,0,none⟩=some (.int .i64 r1):=by rw [hE];simp
     have b1:E.cell? ⟨w3.heap.size,1,none⟩=some (.int .i64 r2):=by rw [hE];simp
     have HGV:=ae (fun (w':World) (hx:Ext E w')=>fH (p:=(m:Int)) ((HI.out.ext XE.out).ext hx));obtain ⟨G,hG⟩:∃ G,G=bz (m:Int) V:=⟨_,rfl⟩;rw [<-hG] at HF HGV;clear hG;go_upto_region 4 with fail;rw [<-hE];clear hE c0 c1 hxE;have hk2:Ext E E.drew:=Ext.drew E;have HKEEP:=ae (fun (w':World) (h:Ext E w')=>(⟨h.cellSome e0,h.cellSome e1,h.cellSome b0,h.cellSome b1,h⟩:w'.cell? ⟨w.heap.size,0,none⟩=some (.int .i64 (m:Int))/\w'.cell? ⟨w.heap.size,1,none⟩=some (.slice a (u+1) cap)/\w'.cell? ⟨w3.heap.size,0,none⟩=some (.int .i64 r1)/\w'.cell? ⟨w3.heap.size,1,none⟩=some (.int .i64 r2)/\Ext E w'));cases hx1:(r1 == G)
     all_goals
      cases hy1:(r2 == 1)
     all_goals
      have HF2:=ae (show payP (m:Int) V X=((r1 == G)&&(r2 == 1)) by rw [HF.out];rw [Bool.eq_iff_iff];simp);rw [hx1,hy1] at HF2
      go_region_held3 (fun w'=>w'.cell? ⟨w.heap.size,0,none⟩=some (.int .i64 (m:Int))/\w'.cell? ⟨w.heap.size,1,none⟩=some (.slice a (u+1) cap)/\w'.cell? ⟨w3.heap.size,0,none⟩=some (.int .i64 r1)/\w'.cell? ⟨w3.heap.size,1,none⟩=some (.int .i64 r2)/\Ext E w')
       (first
         | with_reducible exact HKEEP.out _ hk2)
       (first
         | (go_at_call 87
            (with_reducible refine (HGV.out _ hk2).mono ?_)
            rintro e w4 ⟨rfl,hx4⟩
            have hk2:Ext E w4:=hk2.trans hx4)
         | (go_at_call 86
            (with_reducible refine (bJ _ _).mono ?_)
            rintro e w5 ⟨rfl,hx5⟩
            have hk2:Ext E w5:=hk2.trans hx5)
         | fail)
      all_goals
       go_wp2_with fail;go_ret;exact ⟨ag (by rw [HF2.out];rfl),HX.out.trans (XE.out.trans hk2)⟩
 ·have HP:=ae (show payP (q:Int) V X=false by unfold payP;rw [decide_eq_false (by rw [HLX.out];omega:¬ (X.length:Int)=(q:Int))];simp);have hmm:((m:Int) != (q:Int))=true:=by simp;omega
  go_enter Tryz.func61,Tryz.ntmps61
  go_wp2_with fail;refine HV.out.mono ?_;rintro e w1 ⟨rfl,hx⟩;have c0:w1.cell? ⟨w.heap.size,0,none⟩=some (.int .i64 (q:Int)):=hx.cellSome (by simp);have X1:=ae (HX.out.trans hx);clear hx;go_wp2_with fail;go_ret;exact ⟨ag HP.out.symm,X1.out⟩
end Go.Proofs.YthjjfkeacobikaaGreat
