import Derived.Test.YthjjfkeacobikaaGreatPuAllG12
import Derived.Test.YthjjfkeacobikaaGreatPuAllG15
import Derived.Test.YthjjfkeacobikaaGreatPuAllG13
set_option linter.unusedVariables false
set_option linter.unusedSimpArgs false
namespace Go.Proofs.YthjjfkeacobikaaGreat
set_option maxRecDepth 100000
open Go.RowKit
set_option maxHeartbeats 4000000 in
theorem gD {w:World} {k1 k2:Int} {a b:Option Addr} {n cap n' cap':Nat} {A B:List (Int × Int)} (h:Rats w a n cap A) (h':Rats w b n' cap' B) (hbig:n<=1048576) :
 Calls Tryz.prog 145 #[.slice a n cap,ratV k1 k2,.slice b n' cap'] w fun e w'=>(∃ v,e=.returned (.tuple #[v,.bool (sclL A (k1,k2) B).isSome])/\OwnR w' w.heap.size v ((sclL A (k1,k2) B).getD []))/\Ext w w':=by
 have HL:=ae h.hlen;have HL':=ae h'.hlen;have hmax:=h.hmax;have hcap:=h.hcap;have hmax':=h'.hmax;have hcap':=h'.hcap;have HA:=ae h;have HB':=ae h';have HX:=ae (Ext.alloc w (.cells #[.int .i64 k1,.int .i64 k2] 43));clear h h';by_cases hne:n=n'
 ·subst hne;have HS:=ae (show sclL A (k1,k2) B=runT (sclF A (k1,k2) B) n by unfold sclL;rw [HL.out,HL'.out,if_pos rfl]);have HO:=ae (OwnR.made (w.alloc (.cells #[.int .i64 k1,.int .i64 k2] 43)) (w.heap.size+1) (by simp));go_enter Tryz.func145,Tryz.ntmps145
  go_wp2_with fail
  go_loopg [8,9] n (fun gk o i wr=>∃ (k:Nat) (a1:Option Addr) (n1 p1:Nat) (r:List (Int × Int)),Hid (gk+k=n)/\i=.int .i64 (k:Int)/\o=.slice a1 n1 p1/\Hid (runT (sclF A (k1,k2) B) k=some r)/\Hid (OwnR wr (w.heap.size+1) (.slice a1 n1 p1) r)/\Hid (Ext (w.alloc (.cells #[.int .i64 k1,.int .i64 k2] 43)) wr))
  case atStart=>exact ⟨0,_,_,_,[],ae (by omega),rfl,rfl,ae rfl,ae (by simpa using HO.out),ae (Ext.alloc _ _)⟩
  case round =>
   obtain ⟨k,a1,n1,p1,r,HK,rfl,rfl,HR,HO1,HX1⟩:=hrel;have hszr:=HX1.out.size;rw [World.size_alloc] at hszr;by_cases hlt:k<n
   ·have hkc0:wr.cell? ⟨w.heap.size,0,none⟩=some (.int .i64 k1):=HX1.out.cellSome (by simp);have hkc1:wr.cell? ⟨w.heap.size,1,none⟩=some (.int .i64 k2):=HX1.out.cellSome (by simp);obtain ⟨ab,aoff,ax,ay,ha,hax,hac0,hac1⟩:=((HA.out.ext HX.out).ext HX1.out).at hlt;obtain ⟨bb,boff,bx,by',hb,hbx,hbc0,hbc1⟩:=((HB'.out.ext HX.out).ext HX1.out).at hlt;subst ha hb;have HAX:=ae hax;have HBX:=ae hbx;obtain ⟨p,q,one,hm⟩:∃ p q ok,mulR (k1,k2) (bx,by')=((p,q),ok):=⟨_,_,_,rfl⟩;have HM:=ae hm;obtain ⟨p2,q2,two,hs2⟩:∃ u v ok,addR (ax,ay) (p,q)=((u,v),ok):=⟨_,_,_,rfl⟩;have HS2:=ae hs2;clear hax hbx hm hs2;go_upto_region 7 with fail
    go_cut [10,11] (fun sx so wx=>∃ g:Nat,sx=.pointer (some ⟨g,0,none⟩)/\so=.bool one/\Hid (ah wr wx g p q))
    case first =>
     have hk2:Ext wr wr.drew:=Ext.drew wr;have hka:Ext wr (wr.alloc (.cells #[.int .i64 0,.int .i64 0] 43)).drew:=(Ext.alloc _ _).trans (Ext.drew _);have HKEEP:=ae (fun (w':World) (h:Ext wr w')=>(⟨h.cellSome hkc0,h.cellSome hkc1,h.cellSome hbc0,h.cellSome hbc1,h⟩:w'.cell? ⟨w.heap.size,0,none⟩=some (.int .i64 k1)/\w'.cell? ⟨w.heap.size,1,none⟩=some (.int .i64 k2)/\w'.cell? ⟨bb,boff+k*2,none⟩=some (.int .i64 bx)/\w'.cell? ⟨bb,boff+k*2+1,none⟩=some (.int .i64 by')/\Ext wr w'))
     go_region_held3 (fun w'=>w'.cell? ⟨w.heap.size,0,none⟩=some (.int .i64 k1)/\w'.cell? ⟨w.heap.size,1,none⟩=some (.int .i64 k2)/\w'.cell? ⟨bb,boff+k*2,none⟩=some (.int .i64 bx)/\w'.cell? ⟨bb,boff+k*2+1,none⟩=some (.int .i64 by')/\Ext wr w')
      (first
        | with_reducible exact HKEEP.out _ hk2
        | with_reducible exact HKEEP.out _ hka
        | with_reducible exact HKEEP.out _ ((hk2.setCell (by first|(simp;done)|(simp;omega)) _).setCell (by first|(simp;done)|(simp;omega)) _)
        | with_reducible exact HKEEP.out _ (hk2.trans (Ext.alloc _ _))
        | with_reducible exact HKEEP.out _ (hBB.put _ _).ext)
      (first
        | (go_at_call 211
           (with_reducible refine (mE k1 k2 bx by' _).mono ?_)
           rw [HM.out];rintro e w3 ⟨rfl,hx_w3⟩
           first|(with_reducible have hBB:=ah.grow hBB hx_w3)|(with_reducible have hBB:=ah.firstD hx_w3)|(with_reducible have hBB:=ah.laterD hk2 hx_w3)|skip
           first|(have b0_:=hBB.c0;have b1_:=hBB.c1;have fb_:=hBB.free)|skip
           have hk2:Ext wr w3:=by first|with_reducible exact hk2.trans hx_w3|with_reducible exact hka.trans hx_w3|with_reducible exact (hk2.trans (Ext.alloc _ _)).trans hx_w3
           have hk2s:=hk2.size)
        | fail)
     all_goals (go_wp2_with fail;go_meet;first|exact ⟨_,rfl,rfl,ae (hBB.put _ _)⟩|exact ⟨_,rfl,rfl,ae (ah.new hk2 _ _)⟩|exact ⟨_,rfl,rfl,ae (ah.new' hk2 _ _ (by simp))⟩)
    obtain ⟨g,rfl,rfl,HB1⟩:=hcut;have g0:=HB1.out.c0;have g1:=HB1.out.c1;replace hac0:=HB1.out.ext.cellSome hac0;replace hac1:=HB1.out.ext.cellSome hac1;clear hkc0 hkc1 hbc0 hbc1;go_upto_region 8 with fail
    go_cut [12,13] (fun sx so wx=>∃ g2:Nat,sx=.pointer (some ⟨g2,0,none⟩)/\so=.bool two/\Hid (ah wc wx g2 p2 q2))
    case first =>
     have hk2:Ext wc wc.drew:=Ext.drew wc;have hka:Ext wc (wc.alloc (.cells #[.int .i64 0,.int .i64 0] 43)).drew:=(Ext.alloc _ _).trans (Ext.drew _);have HKEEP:=ae (fun (w':World) (h:Ext wc w')=>(⟨h.cellSome hac0,h.cellSome hac1,h.cellSome g0,h.cellSome g1,h⟩:w'.cell? ⟨ab,aoff+k*2,none⟩=some (.int .i64 ax)/\w'.cell? ⟨ab,aoff+k*2+1,none⟩=some (.int .i64 ay)/\w'.cell? ⟨g,0,none⟩=some (.int .i64 p)/\w'.cell? ⟨g,1,none⟩=some (.int .i64 q)/\Ext wc w'))
     go_region_held3 (fun w'=>w'.cell? ⟨ab,aoff+k*2,none⟩=some (.int .i64 ax)/\w'.cell? ⟨ab,aoff+k*2+1,none⟩=some (.int .i64 ay)/\w'.cell? ⟨g,0,none⟩=some (.int .i64 p)/\w'.cell? ⟨g,1,none⟩=some (.int .i64 q)/\Ext wc w')
      (first
        | with_reducible exact HKEEP.out _ hk2
        | with_reducible exact HKEEP.out _ hka
        | with_reducible exact HKEEP.out _ ((hk2.setCell (by first|(simp;done)|(simp;omega)) _).setCell (by first|(simp;done)|(simp;omega)) _)
        | with_reducible exact HKEEP.out _ (hk2.trans (Ext.alloc _ _))
        | with_reducible exact HKEEP.out _ (hBB.put _ _).ext)
      (first
        | (go_at_call 37
           (with_reducible refine (jm ax ay p q _).mono ?_)
           rw [HS2.out];rintro e w4 ⟨rfl,hx_w4⟩
           first|(with_reducible have hBB:=ah.grow hBB hx_w4)|(with_reducible have hBB:=ah.firstD hx_w4)|(with_reducible have hBB:=ah.laterD hk2 hx_w4)|skip
           first|(have b0_:=hBB.c0;have b1_:=hBB.c1;have fb_:=hBB.free)|skip
           have hk2:Ext wc w4:=by first|with_reducible exact hk2.trans hx_w4|with_reducible exact hka.trans hx_w4|with_reducible exact (hk2.trans (Ext.alloc _ _)).trans hx_w4
           have hk2s:=hk2.size)
        | fail)
     all_goals (go_wp2_with fail;go_meet;first|exact ⟨_,rfl,rfl,ae (hBB.put _ _)⟩|exact ⟨_,rfl,rfl,ae (ah.new hk2 _ _)⟩|exact ⟨_,rfl,rfl,ae (ah.new' hk2 _ _ (by simp))⟩)
    obtain ⟨g2,rfl,rfl,HB2⟩:=hcut;have X2:=ae ((HX1.out.trans HB1.out.ext).trans HB2.out.ext);have HO2:=ae ((HO1.out.ext HB1.out.ext).ext HB2.out.ext);have h0:=HB2.out.c0;have h1:=HB2.out.c1;have HF:=ae (show sclF A (k1,k2) B k=if (one&&two)=true then some (p2,q2) else none by unfold sclF;rw [HAX.out,HBX.out,HM.out];simp only;rw [HS2.out];simp only [Bool.and_eq_true]);clear hac0 hac1 g0 g1;cases hb12:(one&&two)
    ·have HN:=ae (show runT (sclF A (k1,k2) B) n=none from fh HR.out (by rw [HF.out,hb12];rfl) hlt);cases one
     case' true=>(have h2:two=false:=by simpa using hb12);subst h2
     all_goals
      clear hb12;go_wp2_with fail;have hszz:=X2.out.size;rw [World.size_alloc] at hszz
      go_ret2
      exact ⟨⟨_,dU (by rw [HS.out,HN.out];rfl),by rw [HS.out,HN.out];exact OwnR.made _ _ (by omega)⟩,HX.out.trans (X2.out.trans (Ext.alloc _ _))⟩
    ·obtain ⟨rfl,rfl⟩:one=true/\two=true:=by simpa using hb12
     have HR2:=ae (dI (x:=(p2,q2)) HR.out (by rw [HF.out];rfl));have HLR:=ae (cW HR.out);have hszc:=X2.out.size;rw [World.size_alloc] at hszc;clear hb12
     go_wp2_with (first
      | (at_builtin;refine aJ rfl _ _ rfl (w.heap.size+1) (.slice a1 n1 p1) _ rfl (HO2.out.ext (Ext.alloc _ _)) _ 1 _ [(p2,q2)] rfl (Rats.one' _ _ _ _ _ (by simp)) (by rw [HLR.out];omega) (by simp;omega) ?_;intro v2 w4 ho hg hnear;obtain ⟨a2,n2,c2,rfl,HN2⟩:=ho.var;have HO4:=ae ho;have X5:=ae (aq (X2.out.trans (Ext.alloc _ _)) hg (fun j hj=>by have:=(HO2.out.lt j hj).1;simpa using this));clear ho hg hnear))
     go_roundg (gk-1)
     case measure=>have:=HK.out;omega
     case rel=>exact ⟨k+1,a2,n2,c2,_,ae (by have:=HK.out;omega),by go_num,rfl,HR2,HO4,X5⟩
   ·have hkn:k=n:=by have:=HK.out;omega
    subst hkn;go_wp2_with fail
    go_ret2
    exact ⟨⟨_,dU (by rw [HS.out,HR.out];rfl),by rw [HS.out,HR.out];exact HO1.out.mono (Nat.le_succ _)⟩,HX.out.trans HX1.out⟩
 ·have HN:=ae (show sclL A (k1,k2) B=none by unfold sclL;rw [HL.out,HL'.out,if_neg hne]);go_enter Tryz.func145,Tryz.ntmps145
  go_wp2_with fail;have HO:=ae (OwnR.made (w.alloc (.cells #[.int .i64 k1,.int .i64 k2] 43)) w.heap.size (by simp))
  go_ret2
  exact ⟨⟨_,dU (by rw [HN.out];rfl),by rw [HN.out];simpa using HO.out⟩,HX.out.trans (Ext.alloc _ _)⟩
set_option maxHeartbeats 4000000 in
theorem hO {w:World} {a:Option Addr} {n cap:Nat} {l:List (Int × Int)} (h:Rats w a n cap l) (hb:n<=1099511627776) :
 Calls Tryz.prog 163 #[.slice a n cap] w fun e w'=>(∃ v,e=.returned v/\OwnR w' w.heap.size v l)/\Ext w w':=by
 have HI:=ae (h.ext (Ext.alloc w (.cells #[] 43)));have HO:=ae (OwnR.made w w.heap.size (Nat.le_refl _));clear h;go_enter Tryz.func163,Tryz.ntmps163
 go_wp2_with (first|(at_builtin;refine aJ rfl _ _ rfl w.heap.size _ _ rfl HO.out _ n _ l rfl HI.out (by simpa using hb) (by simp) ?_;intro v' w1 ho hg hnear));go_ret;exact ⟨⟨_,rfl,by simpa using ho⟩,aq (Ext.alloc _ _) hg (fun k hk=>Nat.le_of_eq (Option.some.inj (show some w.heap.size=some k from hk)))⟩
set_option maxHeartbeats 8000000 in
theorem kf {w:World} {k1 k2:Int} {a:Option Addr} {n cap:Nat} {A:List (Int × Int)} (h:Rats w a n cap A) (hbig:n<=1048576) :
 Calls Tryz.prog 144 #[.slice a n cap,ratV k1 k2] w fun e w'=>(∃ v,e=.returned (.tuple #[v,.bool (divL A (k1,k2)).isSome])/\OwnR w' w.heap.size v ((divL A (k1,k2)).getD []))/\Ext w w':=by
 have HL:=ae h.hlen;have hmax:=h.hmax;have hcap:=h.hcap;have HA:=ae h;have HX:=ae (Ext.alloc w (.cells #[.int .i64 k1,.int .i64 k2] 43));have HS:=ae (show divL A (k1,k2)=runT (divF A (k1,k2)) n by unfold divL;rw [h.hlen]);have HO:=ae (OwnR.made (w.alloc (.cells #[.int .i64 k1,.int .i64 k2] 43)) (w.heap.size+1) (by simp));clear h;go_enter Tryz.func144,Tryz.ntmps144
 go_wp2_with fail
 go_loopg [6,7] n (fun gk o i wr=>∃ (k:Nat) (a1:Option Addr) (n1 p1:Nat) (r:List (Int × Int)),Hid (gk+k=n)/\i=.int .i64 (k:Int)/\o=.slice a1 n1 p1/\Hid (runT (divF A (k1,k2)) k=some r)/\Hid (OwnR wr (w.heap.size+1) (.slice a1 n1 p1) r)/\Hid (Ext (w.alloc (.cells #[.int .i64 k1,.int .i64 k2] 43)) wr))
 case atStart=>exact ⟨0,_,_,_,[],ae (by omega),rfl,rfl,ae rfl,ae (by simpa using HO.out),ae (Ext.alloc _ _)⟩
 case round =>
  obtain ⟨k,a1,n1,p1,r,HK,rfl,rfl,HR,HO1,HX1⟩:=hrel;have hszr:=HX1.out.size;rw [World.size_alloc] at hszr;by_cases hlt:k<n
  ·have hkc0:wr.cell? ⟨w.heap.size,0,none⟩=some (.int .i64 k1):=HX1.out.cellSome (by simp);have hkc1:wr.cell? ⟨w.heap.size,1,none⟩=some (.int .i64 k2):=HX1.out.cellSome (by simp);obtain ⟨ab,aoff,ax,ay,ha,hax,hac0,hac1⟩:=((HA.out.ext HX.out).ext HX1.out).at hlt;subst ha;have HAX:=ae hax;obtain ⟨p,q,one,hm⟩:∃ p q ok,divR (ax,ay) (k1,k2)=((p,q),ok):=⟨_,_,_,rfl⟩;have HM:=ae hm;clear hax hm;go_upto_region 5 with fail
   go_cut [8,9] (fun sx so wx=>∃ g:Nat,sx=.pointer (some ⟨g,0,none⟩)/\so=.bool one/\Hid (ah wr wx g p q))
   case first =>
    have hk2:Ext wr wr.drew:=Ext.drew wr;have hka:Ext wr (wr.alloc (.cells #[.int .i64 0,.int .i64 0] 43)).drew:=(Ext.alloc _ _).trans (Ext.drew _);have HKEEP:=ae (fun (w':World) (h:Ext wr w')=>(⟨h.cellSome hkc0,h.cellSome hkc1,h.cellSome hac0,h.cellSome hac1,h⟩:w'.cell? ⟨w.heap.size,0,none⟩=some (.int .i64 k1)/\w'.cell? ⟨w.heap.size,1,none⟩=some (.int .i64 k2)/\w'.cell? ⟨ab,aoff+k*2,none⟩=some (.int .i64 ax)/\w'.cell? ⟨ab,aoff+k*2+1,none⟩=some (.int .i64 ay)/\Ext wr w'))
    go_region_held3 (fun w'=>w'.cell? ⟨w.heap.size,0,none⟩=some (.int .i64 k1)/\w'.cell? ⟨w.heap.size,1,none⟩=some (.int .i64 k2)/\w'.cell? ⟨ab,aoff+k*2,none⟩=some (.int .i64 ax)/\w'.cell? ⟨ab,aoff+k*2+1,none⟩=some (.int .i64 ay)/\Ext wr w')
     (first
       | with_reducible exact HKEEP.out _ hk2
       | with_reducible exact HKEEP.out _ hka
       | with_reducible exact HKEEP.out _ ((hk2.setCell (by first|(simp;done)|(simp;omega)) _).setCell (by first|(simp;done)|(simp;omega)) _)
       | with_reducible exact HKEEP.out _ (hk2.trans (Ext.alloc _ _))
       | with_reducible exact HKEEP.out _ (hBB.put _ _).ext)
     (first
       | (go_at_call 183
          (with_reducible refine (mA ax ay k1 k2 _).mono ?_)
          rw [HM.out];rintro e w3 ⟨rfl,hx_w3⟩
          first|(with_reducible have hBB:=ah.grow hBB hx_w3)|(with_reducible have hBB:=ah.firstD hx_w3)|(with_reducible have hBB:=ah.laterD hk2 hx_w3)|skip
          first|(have b0_:=hBB.c0;have b1_:=hBB.c1;have fb_:=hBB.free)|skip
          have hk2:Ext wr w3:=by first|with_reducible exact hk2.trans hx_w3|with_reducible exact hka.trans hx_w3|with_reducible exact (hk2.trans (Ext.alloc _ _)).trans hx_w3
          have hk2s:=hk2.size)
       | fail)
    all_goals (go_wp2_with fail;go_meet;first|exact ⟨_,rfl,rfl,ae (hBB.put _ _)⟩|exact ⟨_,rfl,rfl,ae (ah.new hk2 _ _)⟩|exact ⟨_,rfl,rfl,ae (ah.new' hk2 _ _ (by simp))⟩)
   obtain ⟨g,rfl,rfl,HB1⟩:=hcut;have g0:=HB1.out.c0;have g1:=HB1.out.c1;have X2:=ae (HX1.out.trans HB1.out.ext);have HO2:=ae (HO1.out.ext HB1.out.ext);have HF:=ae (show divF A (k1,k2) k=if one=true then some (p,q) else none by unfold divF;rw [HAX.out,HM.out]);have hszc:=X2.out.size;rw [World.size_alloc] at hszc;clear hkc0 hkc1 hac0 hac1;cases one
   ·have HN:=ae (show runT (divF A (k1,k2)) n=none from fh HR.out (by rw [HF.out];rfl) hlt);go_wp2_with fail
    go_ret2
    exact ⟨⟨_,dU (by rw [HS.out,HN.out];rfl),by rw [HS.out,HN.out];exact OwnR.made _ _ (by omega)⟩,HX.out.trans (X2.out.trans (Ext.alloc _ _))⟩
   ·have HR2:=ae (dI (x:=(p,q)) HR.out (by rw [HF.out];rfl));have HLR:=ae (cW HR.out)
    go_wp2_with (first
     | (at_builtin;refine aJ rfl _ _ rfl (w.heap.size+1) (.slice a1 n1 p1) _ rfl (HO2.out.ext (Ext.alloc _ _)) _ 1 _ [(p,q)] rfl (Rats.one' _ _ _ _ _ (by simp)) (by rw [HLR.out];omega) (by simp;omega) ?_;intro v2 w4 ho hg hnear;obtain ⟨a2,n2,c2,rfl,HN2⟩:=ho.var;have HO4:=ae ho;have X5:=ae (aq (X2.out.trans (Ext.alloc _ _)) hg (fun j hj=>by have:=(HO2.out.lt j hj).1;simpa using this));clear ho hg hnear))
    go_roundg (gk-1)
    case measure=>have:=HK.out;omega
    case rel=>exact ⟨k+1,a2,n2,c2,_,ae (by have:=HK.out;omega),by go_num,rfl,HR2,HO4,X5⟩
  ·have hkn:k=n:=by have:=HK.out;omega
   subst hkn;go_wp2_with fail
   go_ret2
   exact ⟨⟨_,dU (by rw [HS.out,HR.out];rfl),by rw [HS.out,HR.out];exact HO1.out.mono (Nat.le_succ _)⟩,HX.out.trans HX1.out⟩
section
variable {w:World} {ra:Option Addr} {rn rc:Nat} {ba:Option Addr} {bn bc:Nat} {t:Tb} {n m:Nat} {T0:Nat->Nat->Rat}
structure TbN (w:World) (ra:Option Addr) (rn rc:Nat) (ba:Option Addr) (bn bc:Nat) (t:Tb) (n m:Nat):Prop where
 tb:TbC w ra m rc ba m bc t
 rn:rn=m
 bn:bn=m
 cols:t.cols=n
theorem TInv.sizes (h:TInv n m T0 t) (hc:TbC w ra rn rc ba bn bc t):rn=m/\bn=m:=⟨by rw [<-hc.rows.hlen];exact h.len,by rw [<-hc.basis.hlen];exact h.blen⟩
set_option maxHeartbeats 8000000 in
theorem eV (h:TbC w ra m rc ba m bc t) (hT:TInv n m T0 t) (hn:n<=1000) (hm:m<=1000) :
 Calls Tryz.prog 142 #[tbW ra m rc ba m bc (n:Int)] w fun e w'=>e=.returned (.bool true)/\Ext w w':=by
 have hx0:=Ext.alloc w (bp ra m rc ba m bc (n:Int));have HX0:=ae hx0;have H:=ae (h.ext hx0);have HTB:=ae (show (w.alloc (bp ra m rc ba m bc (n:Int))).heap[w.heap.size]?=some (.cells #[.slice ra m rc,.slice ba m bc,.int .i64 (n:Int)] 83 (0,0)) from aj _ _ _ rfl);have h1:=h.rows.hcap;have h2:=h.rows.hmax;have h3:=h.basis.hcap;have h4:=h.basis.hmax;have HT:=ae hT;clear h hT hx0;have hn0:¬ (n:Int)<0:=by omega
 have hn1:¬ (n:Int) > 1000:=by omega
 have hmm:((m:Int) != (m:Int))=false:=by simp
 go_enter Tryz.func142,Tryz.ntmps142
 go_wp2_with fail
 go_loopg [4] m (fun gk ii wr=>∃ k:Nat,Hid (gk+k=m)/\ii=.int .i64 (k:Int)/\Hid (Ext (w.alloc (bp ra m rc ba m bc (n:Int))) wr))
 case atStart=>exact ⟨0,ae (by omega),rfl,ae (Ext.refl _)⟩
 case round =>
  obtain ⟨g1,h_g1⟩:∃ x,x=gk:=⟨_,rfl⟩;subst h_g1;obtain ⟨wr1,h_wr1⟩:∃ x,x=wr:=⟨_,rfl⟩;subst h_wr1;obtain ⟨k,HK,rfl,HX⟩:=hrel;have p0:=al (HX.out.blk HTB.out);have p1:=am (HX.out.blk HTB.out);have p2:=ap (HX.out.blk HTB.out);by_cases hlt:k<m
  ·obtain ⟨zb,zoff,ya,yn,yc,hza,hz0,hrow⟩:=(H.out.ext HX.out).rows.at hlt;subst hza;have hyn:yn=n+m+1:=by rw [<-hrow.hlen];exact (HT.out.row k hlt).1
   have hy1:=hrow.hcap;have hy2:=hrow.hmax;obtain ⟨eb,eoff,hea,he0⟩:=(H.out.ext HX.out).basis.at hlt;subst hea;obtain ⟨bk,hbk⟩:∃ x,x=t.basis[k]?.getD 0:=⟨_,rfl⟩;rw [<-hbk] at he0;have hbr:0<=bk/\bk<n+m:=by
    rw [hbk,List.getElem?_eq_getElem (by rw [HT.out.blen];exact hlt)];exact HT.out.bas _ (List.getElem_mem _)
   have HIN:=ae (fun w'=>bv bk 0 ((n:Int)+(m:Int)-1) w');rw [show inB bk 0 ((n:Int)+(m:Int)-1)=true by unfold inB;simp;omega] at HIN;have hw1:IntKind.i64.wrap ((n:Int)+(m:Int))=(n:Int)+(m:Int):=by rw [IntKind.wrap_i64];omega
   have hw2:IntKind.i64.wrap ((n:Int)+(m:Int)+1)=(n:Int)+(m:Int)+1:=by rw [IntKind.wrap_i64];omega
   have hw3:IntKind.i64.wrap ((n:Int)+(m:Int)-1)=(n:Int)+(m:Int)-1:=by rw [IntKind.wrap_i64];omega
   have hyy:((yn:Int) != (n:Int)+(m:Int)+1)=false:=by simp;omega
   have hk0:(0:Int)<=(k:Int):=by omega
   have hk1:(k:Int)<(m:Int):=by omega
   clear hrow hyn hbk hbr;go_upto_region 7 with fail;have hk2:Ext wr1 wr1.drew:=Ext.drew wr1;have HKEEP:=ae (fun (w':World) (h:Ext wr1 w')=>(⟨h.cellSome p0,h.cellSome p1,h.cellSome p2,h.cellSome hz0,h.cellSome he0,h⟩:w'.cell? ⟨w.heap.size,0,none⟩=some (.slice (some ⟨zb,zoff,none⟩) m rc)/\w'.cell? ⟨w.heap.size,1,none⟩=some (.slice (some ⟨eb,eoff,none⟩) m bc)/\w'.cell? ⟨w.heap.size,2,none⟩=some (.int .i64 (n:Int))/\w'.cell? ⟨zb,zoff+k,none⟩=some (.slice ya yn yc)/\w'.cell? ⟨eb,eoff+k,none⟩=some (.int .i64 bk)/\Ext wr1 w'));refine wp_region_held_drew (S:=(fun w'=>w'.cell? ⟨w.heap.size,0,none⟩=some (.slice (some ⟨zb,zoff,none⟩) m rc)/\w'.cell? ⟨w.heap.size,1,none⟩=some (.slice (some ⟨eb,eoff,none⟩) m bc)/\w'.cell? ⟨w.heap.size,2,none⟩=some (.int .i64 (n:Int))/\w'.cell? ⟨zb,zoff+k,none⟩=some (.slice ya yn yc)/\w'.cell? ⟨eb,eoff+k,none⟩=some (.int .i64 bk)/\Ext wr1 w')) (by kernel_rfl) ?_ (fun hHeld=>?_)
   ·exact HKEEP.out _ hk2
   refine tk 0 ?_;refine tk 1 ?_;refine tk 2 ?_;refine tk 3 ?_;refine tk 4 ?_;refine tk 5 ?_;refine tk 6 ?_;refine tk 7 ?_;refine tk 8 ?_;refine tk 9 ?_;refine tk 10 ?_;refine tk 11 ?_;refine tk 12 ?_;refine tk 13 ?_;refine tk 14 ?_;refine tk 15 ?_;refine tk 16 ?_;refine tk 17 ?_;refine tk 18 ?_;refine tk 19 ?_;refine tk 20 ?_;refine tk 21 ?_;refine tk 22 ?_;refine rd (i:=23) (h:=fun K hK=>?_);go_simp
   (go_at_call 95;refine (HIN.out _).mono ?_;rintro e w3 ⟨rfl,rfl⟩)
   go_wp2_with fail;refine hK.out _ _ ?_ (fun hHeld=>?_)
   ·exact HKEEP.out _ hk2
   clear hK K
   try simp only [Act.put,sA,sB,sC]
   refine tk 24 ?_;refine tk 25 ?_;refine wpAnyH_done (by kernel_rfl) ?_ _;have HX2:=ae (HX.out.trans hk2);clear hw1 hw2 hw3 hyy p0 p1 p2 hz0 he0;go_wp2_with fail
   go_roundg (g1-1)
   case measure=>have:=HK.out;omega
   case rel=>exact ⟨k+1,ae (by have:=HK.out;omega),by go_num,HX2⟩
  ·have hkm:m=k:=by have:=HK.out;omega
   subst hkm;go_wp2_with fail;go_ret;exact ⟨rfl,HX0.out.trans HX.out⟩
end
end Go.Proofs.YthjjfkeacobikaaGreat
namespace Go.Proofs.YthjjfkeacobikaaGreat
set_option maxRecDepth 100000
open Go.RowKit
theorem js (x y:Int) (w:World):Calls Tryz.prog 225 #[ratV x y] w fun e w'=>e=.returned (.int .i64 (cmpR (x,y) (0,1)))/\Ext w w':=by
 obtain ⟨W,hW⟩:∃ W,W=w.alloc (.cells #[.int .i64 x,.int .i64 y] 43):=⟨_,rfl⟩;have HX:=ae (show Ext w W by rw [hW];exact Ext.alloc _ _);have c0:W.cell? ⟨w.heap.size,0,none⟩=some (.int .i64 x):=by rw [hW];simp
 have c1:W.cell? ⟨w.heap.size,1,none⟩=some (.int .i64 y):=by rw [hW];simp
 go_enter Tryz.func225,Tryz.ntmps225
 go_upto_region 1 with fail;rw [<-hW];clear hW;have hk2:Ext W W.drew:=Ext.drew W;have hka:=hk2;have HKEEP:=ae (fun (w':World) (h:Ext W w')=>(⟨h.cellSome c0,h.cellSome c1,h⟩:w'.cell? ⟨w.heap.size,0,none⟩=some (.int .i64 x)/\w'.cell? ⟨w.heap.size,1,none⟩=some (.int .i64 y)/\Ext W w'))
 go_region_held3 (fun w'=>w'.cell? ⟨w.heap.size,0,none⟩=some (.int .i64 x)/\w'.cell? ⟨w.heap.size,1,none⟩=some (.int .i64 y)/\Ext W w')
  (with_reducible exact HKEEP.out _ hk2)
  (first
    | (go_at_call 86
       (with_reducible refine (ce 0 _).mono ?_)
       rintro e w3 ⟨rfl,hx_w3⟩;have hk2:Ext W w3:=hk2.trans hx_w3
       have hs_w3:=hk2.size)
    | (go_at_call 147
       (with_reducible refine (fR x y 0 1 _).mono ?_)
       rintro e w4 ⟨rfl,hx_w4⟩;have hk2:Ext W w4:=hk2.trans hx_w4
       have hs_w4:=hk2.size)
    | fail)
 clear HKEEP hka;go_wp2_with fail;go_ret;exact ⟨rfl,HX.out.trans hk2⟩
set_option maxHeartbeats 4000000 in
theorem jo {w:World} {ra:Option Addr} {rn rc:Nat} {ba:Option Addr} {bn bc:Nat} {x:Int} {a:Option Addr} {n cap:Nat} {costs:List (Int × Int)} (h:Rats w a n cap costs) (m:Nat) (hm:m<=n) :
 Calls Tryz.prog 268 #[tbW ra rn rc ba bn bc x,.slice a n cap,.int .i64 (m:Int)] w fun e w'=>e=.returned (.int .i64 (aZ costs m))/\Ext w w':=by
 have hx0:=Ext.alloc w (bp ra rn rc ba bn bc x);have HX0:=ae hx0;have H:=ae (h.ext hx0);have hc1:=h.hcap;have hc2:=h.hmax;have HL:=ae h.hlen;clear h hx0;have hle:(m:Int)<=(n:Int):=by omega
 go_enter Tryz.func268,Tryz.ntmps268
 go_wp2_with fail
 go_loopg [7] m (fun gk ii wr=>∃ k:Nat,Hid (gk+k=m)/\ii=.int .i64 (k:Int)/\Hid ((costs.take k).all (fun c=>!ec c)=true)/\Hid (Ext (w.alloc (bp ra rn rc ba bn bc x)) wr))
 case atStart=>exact ⟨0,ae (by omega),rfl,ae rfl,ae (Ext.refl _)⟩
 case round =>
  obtain ⟨g1,h_g1⟩:∃ x,x=gk:=⟨_,rfl⟩;subst h_g1;obtain ⟨wr1,h_wr1⟩:∃ x,x=wr:=⟨_,rfl⟩;subst h_wr1;obtain ⟨k,HK,rfl,HA,HX⟩:=hrel;by_cases hlt:k<m
  ·have hkn:k<n:=by omega
   obtain ⟨zb,zoff,p,q,hza,hpq,hz0,hz1⟩:=(H.out.ext HX.out).at hkn;subst hza;have HPQ:=ae hpq;have HS:=ae (js p q wr1);obtain ⟨sg,hsg⟩:∃ s,s=cmpR (p,q) (0,1):=⟨_,rfl⟩;have HSG:=ae (show ec (p,q)=decide (sg<0) by rw [hsg];rfl);rw [<-hsg] at HS;clear hpq hsg;by_cases hs0:sg<0
   ·have HR:=ae (show aZ costs m=k from kQ (by rw [HL.out];omega) hlt HA.out (by rw [HPQ.out,HSG.out,decide_eq_true hs0]));go_wp2_with fail;refine HS.out.mono ?_;rintro e w3 ⟨rfl,hx⟩;have X3:=ae (HX.out.trans hx);clear hx;go_wp2_with fail;go_ret;exact ⟨aM HR.out.symm,HX0.out.trans X3.out⟩
   ·have HT:=ae (iN (by rw [HL.out];exact hkn) HPQ.out HA.out (by rw [HSG.out,decide_eq_false hs0]));go_wp2_with fail;refine HS.out.mono ?_;rintro e w3 ⟨rfl,hx⟩;have X3:=ae (HX.out.trans hx);clear hx;go_wp2_with fail
    go_roundg (g1-1)
    case measure=>have:=HK.out;omega
    case rel=>exact ⟨k+1,ae (by have:=HK.out;omega),by go_num,HT,X3⟩
  ·have hkm:m=k:=by have:=HK.out;omega
   subst hkm;have HR:=ae (show aZ costs m=-1 from iO (by rw [HL.out];omega) HA.out);go_wp2_with fail;go_ret;exact ⟨aM HR.out.symm,HX0.out.trans HX.out⟩
section
variable {w:World} {ra:Option Addr} {rc:Nat} {ba:Option Addr} {bc:Nat} {t:Tb} {n m:Nat} {T0:Nat->Nat->Rat}
set_option maxHeartbeats 16000000 in
theorem mD (h:TbC w ra m rc ba m bc t) (hT:TInv n m T0 t) (hn:n<=1000) (hm:m<=1000) {c:Nat} (hc:c<n) :
 Calls Tryz.prog 269 #[tbW ra m rc ba m bc (n:Int),.int .i64 (c:Int)] w fun e w'=>e=.returned (.int .i64 (cj t (c:Int)))/\Ext w w':=by
 have hx0:=Ext.alloc w (bp ra m rc ba m bc (n:Int));have HX0:=ae hx0;have H:=ae (h.ext hx0);have HTB:=ae (show (w.alloc (bp ra m rc ba m bc (n:Int))).heap[w.heap.size]?=some (.cells #[.slice ra m rc,.slice ba m bc,.int .i64 (n:Int)] 83 (0,0)) from aj _ _ _ rfl);have hr1:=h.rows.hcap;have hr2:=h.rows.hmax;have hb1:=h.basis.hcap;have hb2:=h.basis.hmax;have HT:=ae hT
 have HR:=ae (show cj t (c:Int)=(bP t c m).1 by
  unfold cj
  rw [if_pos (by rw [hT.ok hn,hT.cols,hT.len];simp [inB];omega),hT.len,Int.toNat_natCast])
 have HG:=ae (eV H.out hT hn hm);obtain ⟨u,hu⟩:∃ u,u=n+m:=⟨_,rfl⟩;have HU:=ae (show u=t.cols.toNat+t.rows.length by rw [hT.cols,hT.len,Int.toNat_natCast];exact hu);have HUM:=ae hu;have HIN:=ae (fun w'=>bv (c:Int) 0 ((n:Int)+(m:Int)-1) w');rw [show inB (c:Int) 0 ((n:Int)+(m:Int)-1)=true by unfold inB;simp;omega] at HIN;have hw1:IntKind.i64.wrap ((n:Int)+(m:Int))=(n:Int)+(m:Int):=by rw [IntKind.wrap_i64];omega
 have hw3:IntKind.i64.wrap ((n:Int)+(m:Int)-1)=(n:Int)+(m:Int)-1:=by rw [IntKind.wrap_i64];omega
 clear h hT hx0 hu;go_enter Tryz.func269,Tryz.ntmps269
 go_upto_region 1 with fail;obtain ⟨W,hW⟩:∃ x,x=w.alloc (bp ra m rc ba m bc (n:Int)):=⟨_,rfl⟩;rw [<-hW] at HX0 H HTB HG;rw [<-hW];clear hW;have p0:=al HTB.out;have p1:=am HTB.out;have p2:=ap HTB.out;go_wp2_with fail;refine HG.out.mono ?_;rintro e w1 ⟨rfl,hx⟩;have X1:=ae hx;clear hx p0 p1 p2;have p0:=al (X1.out.blk HTB.out);have p2:=ap (X1.out.blk HTB.out);have HB0:=ae (ah.new (Ext.refl w1) 0 0);go_wp2_with (first|(go_at_call 95;refine (HIN.out _).mono ?_;rintro e w2 ⟨rfl,rfl⟩));clear hw3
 go_loopg [5,7] m (fun gk bst ii wr=>∃ (k:Nat) (st l1 l2:Int),Hid (gk+k=m)/\ii=.int .i64 (k:Int)/\bst=.int .i64 st/\Hid (bP t c k=(st,(l1,l2)))/\Hid (ah w1 wr w1.heap.size l1 l2))
 case atStart=>exact ⟨0,-1,0,0,ae (by omega),rfl,rfl,ae rfl,HB0⟩
 case round =>
  obtain ⟨g1,h_g1⟩:∃ x,x=gk:=⟨_,rfl⟩;subst h_g1;obtain ⟨wr1,h_wr1⟩:∃ x,x=wr:=⟨_,rfl⟩;subst h_wr1;obtain ⟨k,st,l1,l2,HK,rfl,rfl,HL,HB⟩:=hrel;have XR:=ae (X1.out.trans HB.out.ext);clear p0 p2;have p0:=al (XR.out.blk HTB.out);by_cases hlt:k<m
  ·obtain ⟨zb,zoff,za,zn,zc,hza,hz0,hrow⟩:=(H.out.ext XR.out).rows.at hlt;subst hza;have hzn:zn=u+1:=by rw [<-hrow.hlen,HUM.out];exact (HT.out.row k hlt).1
   have HZN:=ae hzn;have hrc:=hrow.hcap;have hrm:=hrow.hmax;have HROW:=ae hrow;have hcz:c<zn:=by have:=HUM.out;omega
   obtain ⟨yb,yoff,p,q,hya,hpq,hy0,hy1⟩:=hrow.at hcz;subst hya;have HPQ:=ae (show t.at k c=(p,q) from hpq);have hczI:(c:Int)<(zn:Int):=by omega
   clear hpq hrow hzn;obtain ⟨E,hE⟩:∃ E,E=wr1.alloc (.cells #[.int .i64 p,.int .i64 q] 43):=⟨_,rfl⟩;obtain ⟨gp,hgp⟩:∃ g,g=wr1.heap.size:=⟨_,rfl⟩;have hxE:Ext wr1 E:=by rw [hE];exact Ext.alloc _ _
   have HBP:=ae (show ah wr1 E gp p q by rw [hE,hgp];exact ah.new (Ext.refl _) _ _);have HBE:=ae (HB.out.grow hxE);go_upto_region 9 with fail;rw [<-hE,<-hgp];clear hE hgp hxE p0 hz0 hy0 hy1;have XE:=ae (X1.out.trans HBE.out.ext);have p0:=al (XE.out.blk HTB.out);have p2:=ap (XE.out.blk HTB.out);obtain ⟨zb',zoff',za',zn',zc',hza',hz0,hrow'⟩:=(H.out.ext XE.out).rows.at hlt;simp only [Option.some.injEq,Addr.mk.injEq,and_true] at hza';obtain ⟨rfl,rfl⟩:=hza';have hzn':zn'=u+1:=by rw [<-hrow'.hlen,HUM.out];exact (HT.out.row k hlt).1
   have HZN':=ae hzn';obtain ⟨ub,uoff,p',q',hua,hpq',hv0,hv1⟩:=hrow'.at (show u<zn' by omega);subst hua;have hrc':=hrow'.hcap;have hrm':=hrow'.hmax;have HQQ:=ae (show t.at k u=(p',q') from hpq');have e0:=HBP.out.c0;have e1:=HBP.out.c1;obtain ⟨d1,d2,dok,hdd⟩:∃ x y ok,divR (p',q') (p,q)=((x,y),ok):=⟨_,_,_,rfl⟩;have HDD:=ae hdd;have hwu:IntKind.i64.wrap ((n:Int)+(m:Int))=(u:Int):=by have:=HUM.out;rw [IntKind.wrap_i64];omega
   have hu0:(0:Int)<=(u:Int):=by omega
   have hu1:(u:Int)<(zn':Int):=by omega
   have hk0:(0:Int)<=(k:Int):=by omega
   have hk1:(k:Int)<(m:Int):=by omega
   clear hpq' hdd hrow' hzn' hw1;go_upto_region 9 with fail
   go_cut [9,10] (fun sx so wx=>∃ g:Nat,sx=.pointer (some ⟨g,0,none⟩)/\so=.bool dok/\Hid (ah E wx g d1 d2))
   case first =>
    have hk2:Ext E E.drew:=Ext.drew E;have hka:Ext E (E.alloc (.cells #[.int .i64 0,.int .i64 0] 43)).drew:=(Ext.alloc _ _).trans (Ext.drew _);have HKEEP:=ae (fun (w':World) (h:Ext E w')=>(⟨h.cellSome p0,h.cellSome p2,h.cellSome hz0,h.cellSome hv0,h.cellSome hv1,h.cellSome e0,h.cellSome e1,h⟩:w'.cell? ⟨w.heap.size,0,none⟩=some (.slice (some ⟨zb,zoff,none⟩) m rc)/\w'.cell? ⟨w.heap.size,2,none⟩=some (.int .i64 (n:Int))/\w'.cell? ⟨zb,zoff+k,none⟩=some (.slice (some ⟨ub,uoff,none⟩) zn' zc')/\w'.cell? ⟨ub,uoff+u*2,none⟩=some (.int .i64 p')/\w'.cell? ⟨ub,uoff+u*2+1,none⟩=some (.int .i64 q')/\w'.cell? ⟨gp,0,none⟩=some (.int .i64 p)/\w'.cell? ⟨gp,1,none⟩=some (.int .i64 q)/\Ext E w'))
    go_region_held3 (fun w'=>w'.cell? ⟨w.heap.size,0,none⟩=some (.slice (some ⟨zb,zoff,none⟩) m rc)/\w'.cell? ⟨w.heap.size,2,none⟩=some (.int .i64 (n:Int))/\w'.cell? ⟨zb,zoff+k,none⟩=some (.slice (some ⟨ub,uoff,none⟩) zn' zc')/\w'.cell? ⟨ub,uoff+u*2,none⟩=some (.int .i64 p')/\w'.cell? ⟨ub,uoff+u*2+1,none⟩=some (.int .i64 q')/\w'.cell? ⟨gp,0,none⟩=some (.int .i64 p)/\w'.cell? ⟨gp,1,none⟩=some (.int .i64 q)/\Ext E w')
     (first
       | with_reducible exact HKEEP.out _ hk2
       | with_reducible exact HKEEP.out _ hka
       | with_reducible exact HKEEP.out _ ((hk2.setCell (by first|(simp;done)|(simp;omega)) _).setCell (by first|(simp;done)|(simp;omega)) _)
       | with_reducible exact HKEEP.out _ (hk2.trans (Ext.alloc _ _))
       | with_reducible exact HKEEP.out _ (hBB.put _ _).ext)
     (first
       | (go_at_call 183
          (with_reducible refine (mA p' q' p q _).mono ?_)
          rw [HDD.out];rintro e w5 ⟨rfl,hx_w5⟩
          first|(with_reducible have hBB:=ah.grow hBB hx_w5)|(with_reducible have hBB:=ah.firstD hx_w5)|(with_reducible have hBB:=ah.laterD hk2 hx_w5)|skip
          first|(have b0_:=hBB.c0;have b1_:=hBB.c1;have fb_:=hBB.free)|skip
          have hk2:Ext E w5:=by first|with_reducible exact hk2.trans hx_w5|with_reducible exact hka.trans hx_w5|with_reducible exact (hk2.trans (Ext.alloc _ _)).trans hx_w5
          have hk2s:=hk2.size)
       | fail)
    all_goals (go_wp2_with fail;go_meet;first|exact ⟨_,rfl,rfl,ae (hBB.put _ _)⟩|exact ⟨_,rfl,rfl,ae (ah.new hk2 _ _)⟩|exact ⟨_,rfl,rfl,ae (ah.new' hk2 _ _ (by simp))⟩)
   obtain ⟨g,rfl,rfl,HB1⟩:=hcut;clear hwu hu0 hu1 p0 p2 hz0 hv0 hv1 e0 e1;have HBC:=ae (HBE.out.grow HB1.out.ext);have HBPC:=ae (HBP.out.grow HB1.out.ext);have e0:=HBPC.out.c0;have e1:=HBPC.out.c1;have HS:=ae (js p q wc);obtain ⟨sg,hsg⟩:∃ s,s=cmpR (p,q) (0,1):=⟨_,rfl⟩;have HSG:=ae hsg;rw [<-hsg] at HS;clear hsg;by_cases hs0:sg<=0
   ·have HST:=ae (show bP t c (k+1)=(st,(l1,l2)) by
     show di _ c (bP _ c k) k=_
     rw [HL.out];exact mc HPQ.out (by rw [<-HSG.out];exact hs0))
    go_wp2_with fail;refine HS.out.mono ?_;rintro e w3 ⟨rfl,hx⟩;have HB3:=ae (HBC.out.grow hx);clear hx;go_wp2_with fail
    go_roundg (g1-1)
    case measure=>have:=HK.out;omega
    case rel=>exact ⟨k+1,st,l1,l2,ae (by have:=HK.out;omega),by go_num,rfl,HST,HB3⟩
   ·have HS0:=ae hs0;cases dok
    ·have HST:=ae (show bP t c (k+1)=(st,(l1,l2)) by
      show di _ c (bP _ c k) k=_
      rw [HL.out];exact me HU.out HPQ.out HQQ.out (by rw [<-HSG.out];have:=HS0.out;omega) (by rw [HDD.out]))
     go_wp2_with fail;refine HS.out.mono ?_;rintro e w3 ⟨rfl,hx⟩;have HB3:=ae (HBC.out.grow hx);clear hx;go_wp2_with fail
     go_roundg (g1-1)
     case measure=>have:=HK.out;omega
     case rel=>exact ⟨k+1,st,l1,l2,ae (by have:=HK.out;omega),by go_num,rfl,HST,HB3⟩
    ·go_wp2_with fail;refine HS.out.mono ?_;rintro e w3 ⟨rfl,hx⟩;have HB3:=ae (HBC.out.grow hx);have HD3:=ae (HB1.out.grow hx);have g0:=HD3.out.c0;have g1':=HD3.out.c1;have b0:=HB3.out.c0;have b1:=HB3.out.c1;have HCM:=ae (fR d1 d2 l1 l2 w3);obtain ⟨cc,hcc⟩:∃ s,s=cmpR (d1,d2) (l1,l2):=⟨_,rfl⟩;have HCC:=ae hcc;rw [<-hcc] at HCM;clear hcc hx e0 e1;go_wp2_with fail;refine HCM.out.mono ?_;rintro e w6 ⟨rfl,hx⟩;have HB6:=ae (HB3.out.grow hx);have HG6:=ae (HD3.out.grow hx);clear hx g0 g1' b0 b1;have X6:=ae (X1.out.trans HB6.out.ext);have c1:=am (X6.out.blk HTB.out);obtain ⟨eb,eoff,hea,he0⟩:=(H.out.ext X6.out).basis.at hlt;subst hea;obtain ⟨bi,hbi⟩:∃ b,b=t.basis[k]?.getD 0:=⟨_,rfl⟩;have HBI:=ae hbi;rw [<-hbi] at he0;clear hbi;have HBD:=ae (gj t c k)
     have HUP:=ae (fun bb (hbb:t.basis[st.toNat]?.getD 0=bb)=>show bP t c (k+1)=if updB st cc bi bb=true then ((k:Int),(d1,d2)) else (st,(l1,l2)) by
      show di _ c (bP _ c k) k=_;rw [HL.out,HCC.out]
      exact mh HU.out HPQ.out HQQ.out (by rw [<-HSG.out];have:=HS0.out;omega) HDD.out HBI.out.symm hbb)
     go_upto_region 12 with fail
     go_cut [93] (fun s82 wx=>∃ bb:Int,s82=.bool (updB st cc bi bb)/\Hid (t.basis[st.toNat]?.getD 0=bb)/\Hid (Ext w6 wx))
     case first =>
      have hk2:Ext w6 w6.drew:=Ext.drew w6;by_cases hst:st<0
      ·have hd0:decide (st<0)=true:=decide_eq_true hst;refine wp_region_held_drew (S:=(fun w'=>w'.cell? ⟨w.heap.size,1,none⟩=some (.slice (some ⟨eb,eoff,none⟩) m bc)/\w'.cell? ⟨eb,eoff+k,none⟩=some (.int .i64 bi)/\Ext w6 w')) (by kernel_rfl) ?_ (fun hHeld=>?_)
       ·exact ⟨hk2.cellSome c1,hk2.cellSome he0,hk2⟩
       refine tk 0 ?_;refine tk 1 ?_;refine tk 2 ?_;refine sk 3 ?_;refine sk 4 ?_;refine tk 5 ?_;refine tk 6 ?_;refine sk 7 ?_;refine sk 8 ?_;refine sk 9 ?_;refine sk 10 ?_;refine sk 11 ?_;refine sk 12 ?_;refine sk 13 ?_;refine sk 14 ?_;refine sk 15 ?_;refine sk 16 ?_;refine sk 17 ?_;refine sk 18 ?_;refine sk 19 ?_;refine sk 20 ?_;refine sk 21 ?_;refine tk 22 ?_;refine wpAnyH_done (by kernel_rfl) ?_ _;go_wp2_with fail;go_meet;exact ⟨_,by unfold updB;rw [hd0];rfl,ae rfl,ae hk2⟩
      ·have hd0:decide (st<0)=false:=decide_eq_false (by omega);obtain ⟨sn,rfl⟩:∃ sn:Nat,st=sn:=⟨st.toNat,by omega⟩;have hsn:sn<m:=by have:=HBD.out;rw [HL.out] at this;simp only at this;omega
       obtain ⟨fb,foff,hfa,hf0⟩:=(H.out.ext X6.out).basis.at hsn;simp only [Option.some.injEq,Addr.mk.injEq,and_true] at hfa;obtain ⟨rfl,rfl⟩:=hfa;obtain ⟨bb,hbb⟩:∃ b,b=t.basis[sn]?.getD 0:=⟨_,rfl⟩;have HBB:=ae (show t.basis[Int.toNat (sn:Int)]?.getD 0=bb by rw [Int.toNat_natCast,hbb]);rw [<-hbb] at hf0;have hs0':(0:Int)<=(sn:Int):=by omega
       have hs1':(sn:Int)<(m:Int):=by omega
       clear hbb;by_cases hcc:cc<0
       ·have hd1:decide (cc<0)=true:=decide_eq_true hcc;refine wp_region_held_drew (S:=(fun w'=>w'.cell? ⟨w.heap.size,1,none⟩=some (.slice (some ⟨eb,eoff,none⟩) m bc)/\w'.cell? ⟨eb,eoff+k,none⟩=some (.int .i64 bi)/\Ext w6 w')) (by kernel_rfl) ?_ (fun hHeld=>?_)
        ·exact ⟨hk2.cellSome c1,hk2.cellSome he0,hk2⟩
        refine tk 0 ?_;refine tk 1 ?_;refine tk 2 ?_;refine tk 3 ?_;refine tk 4 ?_;refine tk 5 ?_;refine tk 6 ?_;refine sk 7 ?_;refine sk 8 ?_;refine sk 9 ?_;refine sk 10 ?_;refine sk 11 ?_;refine sk 12 ?_;refine sk 13 ?_;refine sk 14 ?_;refine sk 15 ?_;refine sk 16 ?_;refine sk 17 ?_;refine sk 18 ?_;refine sk 19 ?_;refine sk 20 ?_;refine sk 21 ?_;refine tk 22 ?_;refine wpAnyH_done (by kernel_rfl) ?_ _;go_wp2_with fail;go_meet;exact ⟨bb,by unfold updB;rw [hd0,hd1];rfl,HBB,ae hk2⟩
       ·have hd1:decide (cc<0)=false:=decide_eq_false (by omega);by_cases hc0:cc=0
        ·subst hc0;refine wp_region_held_drew (S:=(fun w'=>w'.cell? ⟨w.heap.size,1,none⟩=some (.slice (some ⟨eb,eoff,none⟩) m bc)/\w'.cell? ⟨eb,eoff+k,none⟩=some (.int .i64 bi)/\w'.cell? ⟨eb,eoff+sn,none⟩=some (.int .i64 bb)/\Ext w6 w')) (by kernel_rfl) ?_ (fun hHeld=>?_)
         ·exact ⟨hk2.cellSome c1,hk2.cellSome he0,hk2.cellSome hf0,hk2⟩
         refine tk 0 ?_;refine tk 1 ?_;refine tk 2 ?_;refine tk 3 ?_;refine tk 4 ?_;refine tk 5 ?_;refine tk 6 ?_;refine tk 7 ?_;refine tk 8 ?_;refine tk 9 ?_;refine tk 10 ?_;refine tk 11 ?_;refine tk 12 ?_;refine tk 13 ?_;refine tk 14 ?_;refine tk 15 ?_;refine tk 16 ?_;refine tk 17 ?_;refine tk 18 ?_;refine tk 19 ?_;refine tk 20 ?_;refine tk 21 ?_;refine tk 22 ?_;refine wpAnyH_done (by kernel_rfl) ?_ _;go_wp2_with fail;go_meet;exact ⟨bb,by unfold updB;rw [hd0];rfl,HBB,ae hk2⟩
        ·have hd2:(cc == 0)=false:=by simp;omega
         refine wp_region_held_drew (S:=(fun w'=>w'.cell? ⟨w.heap.size,1,none⟩=some (.slice (some ⟨eb,eoff,none⟩) m bc)/\w'.cell? ⟨eb,eoff+k,none⟩=some (.int .i64 bi)/\Ext w6 w')) (by kernel_rfl) ?_ (fun hHeld=>?_)
         ·exact ⟨hk2.cellSome c1,hk2.cellSome he0,hk2⟩
         refine tk 0 ?_;refine tk 1 ?_;refine tk 2 ?_;refine tk 3 ?_;refine tk 4 ?_;refine tk 5 ?_;refine tk 6 ?_;refine tk 7 ?_;refine tk 8 ?_;refine tk 9 ?_;refine sk 10 ?_;refine sk 11 ?_;refine sk 12 ?_;refine sk 13 ?_;refine sk 14 ?_;refine sk 15 ?_;refine sk 16 ?_;refine sk 17 ?_;refine sk 18 ?_;refine sk 19 ?_;refine sk 20 ?_;refine tk 21 ?_;refine tk 22 ?_;refine wpAnyH_done (by kernel_rfl) ?_ _;go_wp2_with fail;go_meet;exact ⟨bb,by unfold updB;rw [hd0,hd1,decide_eq_false hc0];rfl,HBB,ae hk2⟩
     obtain ⟨bb,rfl,HBB,HX7⟩:=hcut;have HB7:=ae (HB6.out.grow HX7.out);have HG7:=ae (HG6.out.grow HX7.out);have HU2:=ae (HUP.out bb HBB.out);clear c1 he0;cases hub2:updB st cc bi bb
     ·have HST:=ae (show bP t c (k+1)=(st,(l1,l2)) by rw [HU2.out,hub2];rfl);go_wp2_with fail
      go_roundg (g1-1)
      case measure=>have:=HK.out;omega
      case rel=>exact ⟨k+1,st,l1,l2,ae (by have:=HK.out;omega),by go_num,rfl,HST,HB7⟩
     ·have HST:=ae (show bP t c (k+1)=((k:Int),(d1,d2)) by rw [HU2.out,hub2];rfl);have g0:=HG7.out.c0;have g1':=HG7.out.c1;have b0:=HB7.out.c0;have b1:=HB7.out.c1;have bf:=HB7.out.free;have HB8:=ae (HB7.out.put d1 d2);go_wp2_with fail
      go_roundg (g1-1)
      case measure=>have:=HK.out;omega
      case rel=>exact ⟨k+1,(k:Int),d1,d2,ae (by have:=HK.out;omega),by go_num,rfl,HST,HB8⟩
  ·have hkn:m=k:=by have:=HK.out;omega
   subst hkn;have HY:=ae (show cj t (c:Int)=st by rw [HR.out,HL.out]);go_wp2_with fail;go_ret;exact ⟨aM HY.out.symm,HX0.out.trans XR.out⟩
end
end Go.Proofs.YthjjfkeacobikaaGreat
namespace Go.Proofs.YthjjfkeacobikaaGreat
set_option maxRecDepth 100000
open Go.RowKit
section
variable {w:World} {ra:Option Addr} {rc:Nat} {ba:Option Addr} {bc:Nat} {t:Tb} {n m:Nat} {T0:Nat->Nat->Rat}
theorem costN_go {t:Tb} {cost r:List (Int × Int)} {k:Nat} (h:cu t cost k=some r):cu t cost (k+1)=sclL r (negR (cost[(t.basis[k]?.getD 0).toNat]?.getD (0,0))) (t.row k):=by
 simp only [cu];rw [h];rfl
set_option maxHeartbeats 16000000 in
theorem qd (h:TbC w ra m rc ba m bc t) (hT:TInv n m T0 t) (hn:n<=1000) (hm:m<=1000) {ka:Option Addr} {kn kc:Nat} {cost:List (Int × Int)} (hk:Rats w ka kn kc cost) (hkl:kn=n+m) (hv:allV cost=true) :
 Calls Tryz.prog 267 #[tbW ra m rc ba m bc (n:Int),.slice ka kn kc] w fun e w'=>(∃ v,e=.returned (.tuple #[v,.bool (bX t cost).isSome])/\OwnR w' w.heap.size v ((bX t cost).getD []))/\Ext w w':=by
 have hx0:=Ext.alloc w (bp ra m rc ba m bc (n:Int));have HX0:=ae hx0;have H:=ae (h.ext hx0);have HTB:=ae (show (w.alloc (bp ra m rc ba m bc (n:Int))).heap[w.heap.size]?=some (.cells #[.slice ra m rc,.slice ba m bc,.int .i64 (n:Int)] 83 (0,0)) from aj _ _ _ rfl);have HK0:=ae (hk.ext hx0);have hr1:=h.rows.hcap;have hr2:=h.rows.hmax;have hb1:=h.basis.hcap;have hb2:=h.basis.hmax;have hk1:=hk.hcap;have hk2:=hk.hmax;have HT:=ae hT;have HLK:=ae hk.hlen;have HKL:=ae hkl
 have HE:=ae (show bX t cost=cu t cost m by
  unfold bX jC
  rw [if_pos (by rw [hT.ok hn,hT.cols,hT.len,hk.hlen,hv,hkl];simp),hT.len])
 have HVL:=ae (fun j (hj:j<kn)=>show valR (cost[j]?.getD (0,0))=true by
  have:j<cost.length:=by rw [hk.hlen];exact hj
  rw [List.getElem?_eq_getElem this];exact (List.all_eq_true.1 hv) _ (List.getElem_mem this))
 have HG:=ae (eV H.out hT hn hm);have HAV:=ae hv;have hsum:(kn:Int)=(n:Int)+(m:Int):=by omega
 have hw1:IntKind.i64.wrap ((n:Int)+(m:Int))=(kn:Int):=by rw [IntKind.wrap_i64];omega
 have hkk:((kn:Int) != (kn:Int))=false:=by simp
 have HSUM:=ae hsum;clear h hT hx0 hk hkl hv hsum;go_enter Tryz.func267,Tryz.ntmps267
 go_upto_region 1 with fail;obtain ⟨W,hW⟩:∃ x,x=w.alloc (bp ra m rc ba m bc (n:Int)):=⟨_,rfl⟩;rw [<-hW] at HX0 H HTB HG HK0;rw [<-hW];clear hW;have p0:=al HTB.out;have p1:=am HTB.out;have p2:=ap HTB.out;go_wp2_with fail;refine HG.out.mono ?_;rintro e w1 ⟨rfl,hx⟩;have X1:=ae hx;clear hx p0 p1 p2;have p0:=al (X1.out.blk HTB.out);have p2:=ap (X1.out.blk HTB.out);have HCP:=ae (hO (HK0.out.ext X1.out) (by have:=HKL.out;omega));go_wp2_with fail;refine HCP.out.mono ?_;rintro e w2 ⟨⟨v2,rfl,ho2⟩,hx⟩;obtain ⟨a2,n2,c2,rfl,HN2⟩:=ho2.var;have X2:=ae (X1.out.trans hx);have HO2:=ae ho2;have hs1:=X1.out.size;have hs12:=hx.size;clear ho2 hx p0 p2 hw1;go_wp2_with fail;refine (ce 0 _).mono ?_;rintro e w3 ⟨rfl,hx⟩;have X3:=ae (X2.out.trans hx);have HO3:=ae (HO2.out.ext hx);have hs3:=hx.size;clear hx
 go_wp2_with (first
  | (at_builtin;refine aJ rfl _ _ rfl w1.heap.size (.slice a2 n2 c2) _ rfl (HO3.out.ext (Ext.alloc _ _)) _ 1 _ [(0,1)] rfl (Rats.one' _ _ _ _ _ (by simp)) (by rw [HLK.out];have:=HKL.out;omega) (by simp;omega) ?_;intro v5 w5 ho hg hnear;have X5:=ae (aq (X3.out.trans (Ext.alloc _ _)) hg (fun j hj=>Nat.le_trans hs1 (HO3.out.lt j hj).1));obtain ⟨a5,n5,p5,rfl,HN5⟩:=ho.var;have HO5:=ae ho;clear ho hg hnear))
 have HAL:=ae (hJ (HK0.out.ext X5.out));rw [HAV.out] at HAL;refine HAL.out.mono ?_;rintro e w6 ⟨rfl,hx⟩;have X6:=ae (X5.out.trans hx);have HO6:=ae (HO5.out.ext hx);clear hx;go_wp2_with fail
 go_loopg [6,7,8] m (fun gk oo fl ii wr=>∃ (k:Nat) (f:Bool) (a1:Option Addr) (n1 p1:Nat) (r:List (Int × Int)),Hid (gk+k=m)/\ii=.int .i64 (k:Int)/\oo=.slice a1 n1 p1/\fl=.bool f/\Hid (cu t cost k=if f=true then some r else none)/\Hid (OwnR wr W.heap.size (.slice a1 n1 p1) r)/\Hid (Ext W wr))
 case atStart=>exact ⟨0,true,_,_,_,_,ae (by omega),rfl,rfl,rfl,ae rfl,ae (HO6.out.mono hs1),X6⟩
 case round =>
  obtain ⟨g1,h_g1⟩:∃ x,x=gk:=⟨_,rfl⟩;subst h_g1;obtain ⟨wr1,h_wr1⟩:∃ x,x=wr:=⟨_,rfl⟩;subst h_wr1;obtain ⟨k,f,a1,n1,q1,r,HK,rfl,rfl,rfl,HC,HO,HX⟩:=hrel;have hsr:=HX.out.size;have p0:=al (HX.out.blk HTB.out);by_cases hlt:k<m
  ·cases f
   ·have HN:=ae (show bX t cost=none by rw [HE.out];exact jA HC.out (by omega));go_wp2_with fail
    go_ret2
    exact ⟨⟨_,dU (by rw [HN.out];rfl),by rw [HN.out];exact OwnR.made _ _ (by have:=HX0.out.size;omega)⟩,HX0.out.trans (HX.out.trans (Ext.alloc _ _))⟩
   ·have HCS:=ae (show cu t cost k=some r from HC.out);have p1:=am (HX.out.blk HTB.out);obtain ⟨zb,zoff,ya,yn,yc,hza,hz0,hrow⟩:=(H.out.ext HX.out).rows.at hlt;subst hza;obtain ⟨eb,eoff,hea,he0⟩:=(H.out.ext HX.out).basis.at hlt;subst hea;obtain ⟨b,hb⟩:∃ b:Nat,t.basis[k]?.getD 0=b:=by
     have:=HT.out.bas _ (List.getElem_mem (l:=t.basis) (n:=k) (by rw [HT.out.blen];exact hlt));exact ⟨(t.basis[k]?.getD 0).toNat,by rw [List.getElem?_eq_getElem (by rw [HT.out.blen];exact hlt)];simp;omega⟩
    have hbk:b<kn:=by
     have h1:=HT.out.bas _ (List.getElem_mem (l:=t.basis) (n:=k) (by rw [HT.out.blen];exact hlt));rw [List.getElem?_eq_getElem (by rw [HT.out.blen];exact hlt),Option.getD_some] at hb;rw [hb] at h1;have:=HKL.out;omega
    rw [hb] at he0;obtain ⟨cb,coff,c1,c2',hca,hcc,hc0,hc1⟩:=(HK0.out.ext HX.out).at hbk;subst hca;have hbd:=bh (HVL.out b hbk);rw [hcc] at hbd;have hw2:IntKind.i64.wrap (-c1)=-c1:=by rw [IntKind.wrap_i64];simp only at hbd;omega
    have HCG:=ae (show cu t cost (k+1)=sclL r (-c1,c2') (t.row k) by rw [costN_go HCS.out,hb,Int.toNat_natCast,hcc];rfl);have HCL:=ae (il HCS.out);have hn1:n1<=1048576:=by have h1:=HO.out.rats.hlen;rw [HCL.out,HLK.out] at h1;have:=HKL.out;omega
    have HSC:=ae (fun (wz:World) (hz:Ext wr1 wz)=>gD (k1:=-c1) (k2:=c2') (HO.out.ext hz).rats (show Rats wz ya yn yc (t.row k) from hrow.ext hz) hn1);obtain ⟨sv,hsv⟩:∃ s,s=sclL r (-c1,c2') (t.row k):=⟨_,rfl⟩;have HSV:=ae (show cu t cost (k+1)=sv by rw [HCG.out,hsv]);simp only [<-hsv] at HSC;have hk0:(0:Int)<=(k:Int):=by omega
    have hk1':(k:Int)<(m:Int):=by omega
    have hb0':(0:Int)<=(b:Int):=by omega
    have hb1':(b:Int)<(kn:Int):=by omega
    clear hrow hbd hcc hsv hb;go_upto_region 8 with fail;have hk2':Ext wr1 wr1.drew:=Ext.drew wr1;have hk2:=hk2';clear hk2';have HKEEP:=ae (fun (w':World) (h:Ext wr1 w')=>(⟨h.cellSome p0,h.cellSome p1,h.cellSome hz0,h.cellSome he0,h.cellSome hc0,h.cellSome hc1,h⟩:w'.cell? ⟨w.heap.size,0,none⟩=some (.slice (some ⟨zb,zoff,none⟩) m rc)/\w'.cell? ⟨w.heap.size,1,none⟩=some (.slice (some ⟨eb,eoff,none⟩) m bc)/\w'.cell? ⟨zb,zoff+k,none⟩=some (.slice ya yn yc)/\w'.cell? ⟨eb,eoff+k,none⟩=some (.int .i64 (b:Int))/\w'.cell? ⟨cb,coff+b*2,none⟩=some (.int .i64 c1)/\w'.cell? ⟨cb,coff+b*2+1,none⟩=some (.int .i64 c2')/\Ext wr1 w'));refine wp_region_held_drew (S:=(fun w'=>w'.cell? ⟨w.heap.size,0,none⟩=some (.slice (some ⟨zb,zoff,none⟩) m rc)/\w'.cell? ⟨w.heap.size,1,none⟩=some (.slice (some ⟨eb,eoff,none⟩) m bc)/\w'.cell? ⟨zb,zoff+k,none⟩=some (.slice ya yn yc)/\w'.cell? ⟨eb,eoff+k,none⟩=some (.int .i64 (b:Int))/\w'.cell? ⟨cb,coff+b*2,none⟩=some (.int .i64 c1)/\w'.cell? ⟨cb,coff+b*2+1,none⟩=some (.int .i64 c2')/\Ext wr1 w')) (by kernel_rfl) ?_ (fun hHeld=>?_)
    ·exact HKEEP.out _ hk2
    refine tk 0 ?_;refine tk 1 ?_;refine tk 2 ?_;refine tk 3 ?_;refine tk 4 ?_;refine tk 5 ?_;refine tk 6 ?_;refine tk 7 ?_;refine tk 8 ?_;refine tk 9 ?_;refine tk 10 ?_;refine tk 11 ?_;refine tk 12 ?_;refine tk 13 ?_;refine tk 14 ?_;refine tk 15 ?_;refine tk 16 ?_;refine tk 17 ?_;refine tk 18 ?_;refine tk 19 ?_;refine tk 20 ?_;refine tk 21 ?_;refine tk 22 ?_;refine tk 23 ?_;refine tk 24 ?_;refine tk 25 ?_;refine rd (i:=26) (h:=fun K hK=>?_);go_simp
    (go_at_call 145;refine (HSC.out _ hk2).mono ?_;rintro e w3 ⟨⟨v3,rfl,ho3⟩,hx3⟩;have hs4:=hk2.size;have hk2:=hk2.trans hx3;obtain ⟨a3,n3,c3,rfl,HN3⟩:=ho3.var)
    go_wp2_with fail;refine hK.out _ _ ?_ (fun hHeld=>?_)
    ·exact HKEEP.out _ hk2
    clear hK K
    try simp only [Act.put,sA,sB,sC]
    refine tk 27 ?_;refine tk 28 ?_;refine tk 29 ?_;refine tk 30 ?_;refine tk 31 ?_;refine wpAnyH_done (by kernel_rfl) ?_ _;have HX2:=ae (HX.out.trans hk2);have HO4:=ae (ho3.mono (Nat.le_trans hsr hs4));clear hk2 ho3 p0 p1 hz0 he0 hc0 hc1 hw2;go_wp2_with fail
    go_roundg (g1-1)
    case measure=>have:=HK.out;omega
    case rel=>exact ⟨k+1,sv.isSome,a3,n3,c3,sv.getD [],ae (by have:=HK.out;omega),by go_num,rfl,rfl,ae (by rw [HSV.out];cases sv <;> rfl),HO4,HX2⟩
  ·have hkm:m=k:=by have:=HK.out;omega
   subst hkm;cases f
   ·have HN:=ae (show bX t cost=none by rw [HE.out];exact HC.out);go_wp2_with fail
    go_ret2
    exact ⟨⟨_,dU (by rw [HN.out];rfl),by rw [HN.out];exact OwnR.made _ _ (by have:=HX0.out.size;omega)⟩,HX0.out.trans (HX.out.trans (Ext.alloc _ _))⟩
   ·have HN:=ae (show bX t cost=some r by rw [HE.out];exact HC.out);go_wp2_with fail
    go_ret2
    exact ⟨⟨_,dU (by rw [HN.out];rfl),by rw [HN.out];exact HO.out.mono (by have:=HX0.out.size;omega)⟩,HX0.out.trans HX.out⟩
set_option maxHeartbeats 8000000 in
theorem mG (h:TbC w ra m rc ba m bc t) (hT:TInv n m T0 t) (hn:n<=1000) (hm:m<=1000) :
 Calls Tryz.prog 228 #[tbW ra m rc ba m bc (n:Int)] w fun e w'=>(∃ v,e=.returned v/\OwnR w' w.heap.size v (solT t))/\Ext w w':=by
 have hx0:=Ext.alloc w (bp ra m rc ba m bc (n:Int));have HX0:=ae hx0;have H:=ae (h.ext hx0);have HTB:=ae (show (w.alloc (bp ra m rc ba m bc (n:Int))).heap[w.heap.size]?=some (.cells #[.slice ra m rc,.slice ba m bc,.int .i64 (n:Int)] 83 (0,0)) from aj _ _ _ rfl);obtain ⟨W,hW⟩:∃ x,x=w.alloc (bp ra m rc ba m bc (n:Int)):=⟨_,rfl⟩;have hsw:W.heap.size=w.heap.size+1:=by rw [hW];simp
 have HSW:=ae hsw;have hr1:=h.rows.hcap;have hr2:=h.rows.hmax;have hb1:=h.basis.hcap;have hb2:=h.basis.hmax;have HT:=ae hT;have HSO:=ae (show solT t=solN t m by unfold solT;rw [if_pos (hT.ok hn),hT.len]);have HS0:=ae (show solN t 0=List.replicate (n+m) (0,1) by simp only [solN];rw [hT.cols,hT.len];rfl);have HSL:=ae (fun k=>show (solN t k).length=n+m by rw [fT,hT.cols,hT.len];simp);have HO:=ae (OwnR.made W (w.heap.size+1) (by omega));have X0:=ae (Ext.alloc W (.cells #[] 43));rw [<-hW] at HX0 H HTB;rw [hsw] at HO;have HG:=ae (eV (H.out.ext X0.out) hT hn hm);have hw1:IntKind.i64.wrap ((n:Int)+(m:Int))=(n:Int)+(m:Int):=by rw [IntKind.wrap_i64];omega
 clear h hT hx0 hsw;go_enter Tryz.func228,Tryz.ntmps228
 go_upto_region 1 with fail;rw [<-hW];clear hW;have hsw:=HSW.out;have p0:=al (X0.out.blk HTB.out);have p1:=am (X0.out.blk HTB.out);have p2:=ap (X0.out.blk HTB.out);go_wp2_with fail;refine HG.out.mono ?_;rintro e w1 ⟨rfl,hx⟩;have X1:=ae (X0.out.trans hx);have HO1':=ae (HO.out.ext hx);clear hx p0 p1 p2;go_wp2_with fail
 go_loopg [3,4] (n+m) (fun gk oo ii wr=>∃ (k:Nat) (a1:Option Addr) (n1 p1:Nat),Hid (gk+k=n+m)/\ii=.int .i64 (k:Int)/\oo=.slice a1 n1 p1/\Hid (OwnR wr (w.heap.size+1) (.slice a1 n1 p1) (List.replicate k (0,1)))/\Hid (Ext W wr))
 case atStart=>exact ⟨0,_,_,_,ae (by omega),rfl,rfl,HO1',X1⟩
 case round =>
  obtain ⟨g1,h_g1⟩:∃ x,x=gk:=⟨_,rfl⟩;subst h_g1;obtain ⟨wr1,h_wr1⟩:∃ x,x=wr:=⟨_,rfl⟩;subst h_wr1;obtain ⟨k,a1,n1,q1,HK,rfl,rfl,HO1,HX⟩:=hrel;have p0:=al (HX.out.blk HTB.out);have p2:=ap (HX.out.blk HTB.out);have hsz:=HX.out.size;by_cases hlt:k<n+m
  ·have HLL:=ae (show (List.replicate k ((0:Int),(1:Int))).length=k by simp);have hltI:(k:Int)<(n:Int)+(m:Int):=by omega
   go_wp2_with fail;refine (ce 0 _).mono ?_;rintro e w3 ⟨rfl,hx⟩;have X3:=ae (HX.out.trans hx);have HO3:=ae (HO1.out.ext hx);have hs3:=X3.out.size;clear hx p0 p2
   go_wp2_with (first
    | (at_builtin;refine aJ rfl _ _ rfl (w.heap.size+1) (.slice a1 n1 q1) _ rfl (HO3.out.ext (Ext.alloc _ _)) _ 1 _ [(0,1)] rfl (Rats.one' _ _ _ _ _ (by simp)) (by rw [HLL.out];omega) (by simp;omega) ?_;intro v5 w5 ho hg hnear;have X5:=ae (aq (X3.out.trans (Ext.alloc _ _)) hg (fun j hj=>by have:=(HO3.out.lt j hj).1;omega));obtain ⟨a5,n5,p5,rfl,HN5⟩:=ho.var;have HO5:=ae ho;clear ho hg hnear))
   go_roundg (g1-1)
   case measure=>have:=HK.out;omega
   case rel=>exact ⟨k+1,a5,n5,p5,ae (by have:=HK.out;omega),by go_num,rfl,ae (by have:=HO5.out;rw [<-List.replicate_succ'] at this;exact this),X5⟩
  ·have hkm:k=n+m:=by have:=HK.out;omega
   have hltI:¬ (k:Int)<(n:Int)+(m:Int):=by omega
   have HKM:=ae hkm;have HO2:=ae (show OwnR wr1 (w.heap.size+1) (.slice a1 n1 q1) (solN t 0) by rw [HS0.out,<-hkm];exact HO1.out);clear hkm;go_wp2_with fail;clear p2 hltI
   go_loopg [5] m (fun gk ii wr=>∃ (k:Nat),Hid (gk+k=m)/\ii=.int .i64 (k:Int)/\Hid (OwnR wr (w.heap.size+1) (.slice a1 n1 q1) (solN t k))/\Hid (Ext W wr))
   case atStart=>exact ⟨0,ae (by omega),rfl,HO2,HX⟩
   case round =>
    obtain ⟨g2,h_g2⟩:∃ x,x=gk:=⟨_,rfl⟩;subst h_g2;obtain ⟨wr2,h_wr2⟩:∃ x,x=wr:=⟨_,rfl⟩;subst h_wr2;obtain ⟨j,HJ,rfl,HO4,HX4⟩:=hrel;clear p0;have p0:=al (HX4.out.blk HTB.out);by_cases hjl:j<m
    ·have p1:=am (HX4.out.blk HTB.out);have p2:=ap (HX4.out.blk HTB.out);obtain ⟨zb,zoff,ya,yn,yc,hza,hz0,hrow⟩:=(H.out.ext HX4.out).rows.at hjl;subst hza;obtain ⟨u,hu⟩:∃ u,u=n+m:=⟨_,rfl⟩;have hyn:yn=u+1:=by rw [<-hrow.hlen,hu];exact (HT.out.row j hjl).1
     have HYN:=ae hyn;have hy1:=hrow.hcap;have hy2:=hrow.hmax;have hub:u<=200000:=by omega
     obtain ⟨yb,yoff,p,q,hya,hpq,hy0c,hy1c⟩:=hrow.at (show u<yn by omega);subst hya;have HPQ:=ae (show t.at j u=(p,q) from hpq);obtain ⟨b,hb⟩:∃ b:Nat,t.basis[j]?.getD 0=b:=by
      have:=HT.out.bas _ (List.getElem_mem (l:=t.basis) (n:=j) (by rw [HT.out.blen];exact hjl));exact ⟨(t.basis[j]?.getD 0).toNat,by rw [List.getElem?_eq_getElem (by rw [HT.out.blen];exact hjl)];simp;omega⟩
     have hbl:b<n+m:=by
      have h1:=HT.out.bas _ (List.getElem_mem (l:=t.basis) (n:=j) (by rw [HT.out.blen];exact hjl));rw [List.getElem?_eq_getElem (by rw [HT.out.blen];exact hjl),Option.getD_some] at hb;rw [hb] at h1;omega
     have HB:=ae hb;obtain ⟨eb,eoff,hea,he0⟩:=(H.out.ext HX4.out).basis.at hjl;subst hea;rw [hb] at he0;have hn1:n1=u:=by have:=HO4.out.rats.hlen;rw [HSL.out] at this;omega
     subst hn1;obtain ⟨G,hG,hbG,hfr,hGl⟩:=HO4.out.block (k:=b) (by omega);subst hG;obtain ⟨G',goff',g1v,g2v,hG',hgv,hg0,hg1⟩:=HO4.out.rats.at (show b<n1 by omega);simp only [Option.some.injEq,Addr.mk.injEq,and_true] at hG';obtain ⟨rfl,rfl⟩:=hG';rw [Nat.zero_add] at hg0 hg1;have hwu:IntKind.i64.wrap ((n:Int)+(m:Int))=(n1:Int):=by rw [IntKind.wrap_i64];omega
     have hu1:(n1:Int)<(yn:Int):=by have:=HYN.out;omega
     have hu0:(0:Int)<=(n1:Int):=by omega
     have hb0':(0:Int)<=(b:Int):=by omega
     have hb1':(b:Int)<(n1:Int):=by omega
     have hj0:(0:Int)<=(j:Int):=by omega
     have hj1:(j:Int)<(m:Int):=by omega
     have HU:=ae hu;clear hpq hrow hyn hb hgv hu hw1;go_upto_region 11 with fail
     go_still_tail 20,(by kernel_rfl)
     have HO5:=ae (show OwnR ((wr2.drew.setCell ⟨G,b*2,none⟩ (.int .i64 p)).setCell ⟨G,b*2+1,none⟩ (.int .i64 q)) (w.heap.size+1) (.slice (some ⟨G,0,none⟩) n1 q1) (solN t (j+1)) by
      have h1:=(HO4.out.ext (Ext.drew wr2)).set (k:=b) (by rw [HSL.out,<-HU.out];omega) p q;have h2:solN t (j+1)=(solN t j).set b (p,q):=by
       simp only [solN];rw [HB.out,Int.toNat_natCast,HT.out.cols,HT.out.len,Int.toNat_natCast,<-HU.out,HPQ.out]
      rw [h2];exact h1)
     have hGW:W.heap.size<=G:=by have:=HSW.out;omega
     have HX5:=ae (((HX4.out.trans (Ext.drew wr2)).setCell (p:=⟨G,b*2,none⟩) hGW (.int .i64 p)).setCell (p:=⟨G,b*2+1,none⟩) hGW (.int .i64 q));clear hwu;go_wp2_with fail
     go_roundg (g2-1)
     case measure=>have:=HJ.out;omega
     case rel=>exact ⟨j+1,ae (by have:=HJ.out;omega),by go_num,HO5,HX5⟩
    ·have hjm:m=j:=by have:=HJ.out;omega
     subst hjm;go_wp2_with fail;go_ret;exact ⟨⟨_,rfl,by rw [HSO.out];exact HO4.out.mono (by omega)⟩,HX0.out.trans HX4.out⟩
end
end Go.Proofs.YthjjfkeacobikaaGreat
namespace Go.Proofs.YthjjfkeacobikaaGreat
set_option maxRecDepth 100000
open Go.RowKit
section
variable {w:World} {a:Option Addr} {na ca:Nat} {b:Option Addr} {nb cb:Nat} {c:Option Addr} {nc cc:Nat} {A:List (List Int)} {B:List Int} {C:List (Int × Int)}
set_option maxHeartbeats 16000000 in
theorem gP (h:LpC w a na ca b nb cb c nc cc A B C) (ok:okLP A B C=true) :
 Calls Tryz.prog 160 #[lpW a na ca b nb cb c nc cc] w fun e w'=>(∃ va vb vs,e=.returned (.agg #[va,vb,.int .i64 (nc:Int)])/\OwnT w' w.heap.size va vb vs (bC A B nc))/\Ext w w':=by
 obtain ⟨r1,r2,r3,r4,r5,r6⟩:=cg h ok;subst r3;have hx0:=(Ext.alloc w (bm a nb ca b nb cb c nc cc)).trans (Ext.alloc _ (.cells #[.slice none 0 0,.slice none 0 0,.int .i64 0] 83));obtain ⟨W,hW⟩:∃ W,W=(w.alloc (bm a nb ca b nb cb c nc cc)).alloc (.cells #[.slice none 0 0,.slice none 0 0,.int .i64 0] 83):=⟨_,rfl⟩;rw [<-hW] at hx0;have HX0:=ae hx0;have H:=ae (h.ext hx0);have HV:=ae (dA H.out);rw [ok] at HV;have HGB:=ae (show W.heap[w.heap.size+1]?=some (.cells #[.slice none 0 0,.slice none 0 0,.int .i64 0] 83 (0,0)) by rw [hW];exact aj _ _ _ (by simp));have HTB:=ae (show W.heap[w.heap.size]?=some (.cells #[.slice a nb ca,.slice b nb cb,.slice c nc cc] 109 (0,0)) by rw [hW,bz _ _ _ (by simp)];exact aj _ _ _ rfl);have HSW:=ae (show W.heap.size=w.heap.size+1+1 by rw [hW];simp);have ha1:=h.a.hcap;have ha2:=h.a.hmax;have hb1:=h.b.hcap;have hb2:=h.b.hmax;have hc1:=h.c.hcap;have hc2:=h.c.hmax;have HLA:=ae h.a.hlen;have HLB:=ae h.b.hlen;have HR4:=ae r4;have HR5:=ae r5;have HR6:=ae r6;clear h hx0 ok r4 r5 r6;go_enter Tryz.func160,Tryz.ntmps160
 go_upto_region 1 with fail;rw [<-hW];clear hW;have p0:=al HTB.out;have p1:=am HTB.out;have p2:=ap HTB.out;go_wp2_with fail;refine HV.out.mono ?_;rintro e w1 ⟨rfl,hx⟩;have X1:=ae hx;have H1:=ae (H.out.ext hx);clear hx p0 p1 p2;have P0:=ae (al (X1.out.blk HTB.out));have P1:=ae (am (X1.out.blk HTB.out));have P2:=ae (ap (X1.out.blk HTB.out));have p2:=P2.out;have hs1:w.heap.size+1+1<=w1.heap.size:=by have:=X1.out.size;have:=HSW.out;omega
 obtain ⟨E,hE⟩:∃ E,E=w1.alloc (.cells #[.slice none 0 0,.slice none 0 0,.int .i64 (nc:Int)] 83):=⟨_,rfl⟩;have XE:=ae (show Ext w1 E by rw [hE];exact Ext.alloc _ _)
 have HT0:=ae (show TbO E w1.heap.size w1.heap.size (.slice none 0 0) (.slice none 0 0) (nc:Int) [] [] [] by
  rw [hE];exact ⟨aj _ _ _ rfl,Nat.le_refl _,World.ownsRow_nil _ _ _ 1,cI.nil _ _,OwnI.nil _ _⟩)
 go_upto_region 4 with fail;rw [<-hE];clear hE p2;have p0:=XE.out.cellSome P0.out;go_wp2_with fail
 go_loopg [4] nb (fun gk ii wr=>∃ (k:Nat) (va vb:Value) (vs:List Value),Hid (gk+k=nb)/\ii=.int .i64 (k:Int)/\Hid (TbO wr w1.heap.size w1.heap.size va vb (nc:Int) vs ((List.range k).map (bZ A B)) ((List.range k).map fun i=>((nc+i:Nat):Int)))/\Hid (Ext w1 wr))
 case atStart=>exact ⟨0,_,_,_,ae (by omega),rfl,HT0,XE⟩
 case round =>
  obtain ⟨g1,h_g1⟩:∃ x,x=gk:=⟨_,rfl⟩;subst h_g1;obtain ⟨wr1,h_wr1⟩:∃ x,x=wr:=⟨_,rfl⟩;subst h_wr1;obtain ⟨k,va,vb,vs,HK,rfl,T,HX⟩:=hrel;clear p0;have p0:=HX.out.cellSome P0.out;have hsr:=HX.out.size;by_cases hlt:k<nb
  ·obtain ⟨zb,zoff,ya,yn,yc,hza,hz0,hrow⟩:=(H1.out.ext HX.out).a.at hlt;subst hza;obtain rfl:yn=nc:=by rw [<-hrow.hlen];exact HR4.out k hlt
   have hy1:=hrow.hcap;have hy2:=hrow.hmax;obtain ⟨eb,eoff,hea,he0⟩:=H1.out.b.at hlt;subst hea;obtain ⟨bk,hbk⟩:∃ x,x=B[k]?.getD 0:=⟨_,rfl⟩;rw [<-hbk] at he0;have HE0:=ae he0;have HZ0:=ae hz0;have HBK:=ae hbk;have hbb:-5000<=bk/\bk<=5000:=by
    rw [hbk,List.getElem?_eq_getElem (by rw [HLB.out];exact hlt)];exact HR6.out _ (List.getElem_mem _)
   obtain ⟨hbb0,hbb1⟩:=hbb;obtain ⟨sd,hsd⟩:∃ s,s=sideI bk:=⟨_,rfl⟩;have HSD:=ae hsd;have hsd0:(bk<0/\sd=-1) ∨ (¬ bk<0/\sd=1):=by rw [hsd];exact ev bk
   have hsb:-1<=sd/\sd<=1:=by omega
   obtain ⟨hsb0,hsb1⟩:=hsb;have p1:=HX.out.cellSome P1.out;have he1:=HX.out.cellSome HE0.out;have HROW:=ae hrow;clear hrow hbk hsd he0
   go_upto_if 29 with fail
   go_cut [5] (fun s6 wx=>s6=.int .i64 sd/\wr1=wx)
   case first =>
    rcases hsd0 with ⟨hneg,rfl⟩|⟨hneg,rfl⟩
    all_goals
     go_wp2_with fail;go_meet;exact ⟨rfl,rfl⟩
   obtain ⟨rfl,rfl⟩:=hcut;clear hsd0;have HO0:=ae (OwnR.made wr1 wr1.heap.size (Nat.le_refl _));go_wp2_with fail
   go_loopg [6,7] yn (fun gk oo ii wr=>∃ (j:Nat) (a1:Option Addr) (n1 q1:Nat),Hid (gk+j=yn)/\ii=.int .i64 (j:Int)/\oo=.slice a1 n1 q1/\Hid (OwnR wr wr1.heap.size (.slice a1 n1 q1) (((A[k]?.getD []).take j).map fun x=>(sd*x,(1:Int))))/\Hid (Ext wr1 wr))
   case atStart=>exact ⟨0,_,_,_,ae (by omega),rfl,rfl,HO0,ae (Ext.alloc _ _)⟩
   case round =>
    obtain ⟨g2,h_g2⟩:∃ x,x=gk:=⟨_,rfl⟩;subst h_g2;obtain ⟨wr2,h_wr2⟩:∃ x,x=wr:=⟨_,rfl⟩;subst h_wr2;obtain ⟨j,a1,n1,q1,HJ,rfl,rfl,HO1,HX1⟩:=hrel;clear p0 p1 he1 hz0;have p2:=(HX.out.trans HX1.out).cellSome P2.out;by_cases hjl:j<yn
    ·have p0:=(HX.out.trans HX1.out).cellSome P0.out;have hz0:=HX1.out.cellSome HZ0.out;obtain ⟨xb,xoff,hxa,hx0⟩:=(HROW.out.ext HX1.out).at hjl;subst hxa;obtain ⟨x,hx⟩:∃ x,x=(A[k]?.getD [])[j]?.getD 0:=⟨_,rfl⟩;rw [<-hx] at hx0;have HJL:=ae (show j<(A[k]?.getD []).length by rw [HR4.out k hlt];exact hjl);have hxb:-5000<=x/\x<=5000:=by
      rw [hx,List.getElem?_eq_getElem HJL.out];exact (HR5.out k hlt).2 _ (List.getElem_mem _)
     obtain ⟨hxb0,hxb1⟩:=hxb;have hm1:sd*x=x ∨ sd*x=-x ∨ sd*x=0:=by
      have:sd=-1 ∨ sd=0 ∨ sd=1:=by omega
      rcases this with h1|h1|h1 <;> subst h1 <;> omega
     have hm2:-5000<=sd*x/\sd*x<=5000:=by rcases hm1 with h1|h1|h1 <;> rw [h1] <;> omega
     obtain ⟨z,hz⟩:∃ z,z=sd*x:=⟨_,rfl⟩;have hwz2:wrap64 (sd*x)=z:=by rw [hz];unfold wrap64;omega
     have HSN:=ae (show ((A[k]?.getD []).take j).map (fun x=>(sd*x,(1:Int)))++[(z,1)]=((A[k]?.getD []).take (j+1)).map (fun x=>(sd*x,(1:Int))) by
      rw [hz,hx];exact ml (fun x=>(sd*x,(1:Int))) HJL.out)
     have HLL:=ae (show (((A[k]?.getD []).take j).map (fun x=>(sd*x,(1:Int)))).length=j by rw [List.length_map,List.length_take];have:=HJL.out;omega);clear hx hz hm1 hm2;go_wp2_with fail;rw [hwz2];clear hwz2;refine (ce z _).mono ?_;rintro e w3 ⟨rfl,hx⟩;have X3:=ae (HX1.out.trans hx);have HO3:=ae (HO1.out.ext hx);have hs3:=X3.out.size;clear hx
     go_wp2_with (first
      | (at_builtin;refine aJ rfl _ _ rfl wr1.heap.size (.slice a1 n1 q1) _ rfl (HO3.out.ext (Ext.alloc _ _)) _ 1 _ [(z,1)] rfl (Rats.one' _ _ _ _ _ (by simp)) (by rw [HLL.out];omega) (by simp;omega) ?_;intro v5 w5 ho hg hnear;have X5:=ae (aq (X3.out.trans (Ext.alloc _ _)) hg (fun j hj=>(HO3.out.lt j hj).1));obtain ⟨a5,n5,p5,rfl,HN5⟩:=ho.var;have HO5:=ae ho;clear ho hg hnear))
     go_roundg (g2-1)
     case measure=>have:=HJ.out;omega
     case rel=>exact ⟨j+1,a5,n5,p5,ae (by have:=HJ.out;omega),by go_num,rfl,ae (by rw [<-HSN.out];exact HO5.out),X5⟩
    ·have hjn:yn=j:=by have:=HJ.out;omega
     have HT2:=ae (show OwnR wr2 wr1.heap.size (.slice a1 n1 q1) ((A[k]?.getD []).map (fun x=>(sd*x,(1:Int)))) by
      have h1:=HO1.out
      rw [List.take_of_length_le (by rw [HR4.out k hlt];omega)] at h1;exact h1)
     have HLN:=ae (show ((A[k]?.getD []).map (fun x=>(sd*x,(1:Int)))).length=yn by rw [List.length_map];exact HR4.out k hlt);have p0:=(HX.out.trans HX1.out).cellSome P0.out;have HJN:=ae hjn;clear hjn;go_wp2_with fail
     go_loopg [6,8] nb (fun gk oo ii wr=>∃ (i:Nat) (a1:Option Addr) (n1 q1:Nat),Hid (gk+i=nb)/\ii=.int .i64 (i:Int)/\oo=.slice a1 n1 q1/\Hid (OwnR wr wr1.heap.size (.slice a1 n1 q1) ((A[k]?.getD []).map (fun x=>(sd*x,(1:Int)))++(List.range i).map fun i=>if i=k then ((1:Int),(1:Int)) else (0,1)))/\Hid (Ext wr1 wr))
     case atStart=>exact ⟨0,_,_,_,ae (by omega),rfl,rfl,ae (by simpa using HT2.out),HX1⟩
     case round =>
      obtain ⟨g3,h_g3⟩:∃ x,x=gk:=⟨_,rfl⟩;subst h_g3;obtain ⟨wr3,h_wr3⟩:∃ x,x=wr:=⟨_,rfl⟩;subst h_wr3;obtain ⟨i,a3,n3,q3,HI,rfl,rfl,HO3,HX3⟩:=hrel;clear p0 p2;have p0:=(HX.out.trans HX3.out).cellSome P0.out;by_cases hil:i<nb
      ·have HLL:=ae (show ((A[k]?.getD []).map (fun x=>(sd*x,(1:Int)))++(List.range i).map fun i=>if i=k then ((1:Int),(1:Int)) else (0,1)).length=yn+i by rw [List.length_append,HLN.out];simp);obtain ⟨un,hun⟩:∃ u:Int,u=if i=k then 1 else 0:=⟨_,rfl⟩
       have HSN:=ae (show (List.range i).map (fun i=>if i=k then ((1:Int),(1:Int)) else (0,1))++[(un,1)]=(List.range (i+1)).map fun i=>if i=k then ((1:Int),(1:Int)) else (0,1) by
        rw [<-cK,hun];congr 2;split <;> rfl)
       have hik:((i:Int) == (k:Int))=decide (i=k):=by by_cases h:i=k <;> simp [h] <;> omega
       have HUN:=ae (show bitI (decide (i=k))=un by rw [hun];by_cases h:i=k <;> simp [h,bitI]);have HBT:=ae (fun w'=>eE (decide (i=k)) w');rw [HUN.out] at HBT;clear hun;go_wp2_with (first|(go_at_call 74;refine (HBT.out _).mono ?_;rintro e w2 ⟨rfl,rfl⟩));clear hik;refine (ce un _).mono ?_;rintro e w3 ⟨rfl,hx⟩;have X3:=ae (HX3.out.trans hx);have HO4:=ae (HO3.out.ext hx);have hs3:=X3.out.size;clear hx
       go_wp2_with (first
        | (at_builtin;refine aJ rfl _ _ rfl wr1.heap.size (.slice a3 n3 q3) _ rfl (HO4.out.ext (Ext.alloc _ _)) _ 1 _ [(un,1)] rfl (Rats.one' _ _ _ _ _ (by simp)) (by rw [HLL.out];omega) (by simp;omega) ?_;intro v5 w5 ho hg hnear;have X5:=ae (aq (X3.out.trans (Ext.alloc _ _)) hg (fun j hj=>(HO4.out.lt j hj).1));obtain ⟨a5,n5,p5,rfl,HN5⟩:=ho.var;have HO5:=ae ho;clear ho hg hnear))
       go_roundg (g3-1)
       case measure=>have:=HI.out;omega
       case rel=>exact ⟨i+1,a5,n5,p5,ae (by have:=HI.out;omega),by go_num,rfl,ae (by have:=HO5.out;rw [List.append_assoc,HSN.out] at this;exact this),X5⟩
      ·have hin:i=nb:=by have:=HI.out;omega
       subst hin;obtain ⟨z2,hz2⟩:∃ z,z=sd*bk:=⟨_,rfl⟩;have hm1:sd*bk=bk ∨ sd*bk=-bk ∨ sd*bk=0:=by
        have:sd=-1 ∨ sd=0 ∨ sd=1:=by omega
        rcases this with h1|h1|h1 <;> subst h1 <;> omega
       have hwr:IntKind.i64.wrap (sd*bk)=z2:=by
        rw [IntKind.wrap_i64,hz2];rcases hm1 with h1|h1|h1 <;> rw [h1] <;> omega
       have HRE:=ae (show ((A[k]?.getD []).map (fun x=>(sd*x,(1:Int)))++(List.range i).map fun i=>if i=k then ((1:Int),(1:Int)) else (0,1))++[(z2,1)]=bZ A B k by
        unfold bZ;rw [<-HBK.out,<-HSD.out,hz2,HLA.out,mY])
       have HLL:=ae (show ((A[k]?.getD []).map (fun x=>(sd*x,(1:Int)))++(List.range i).map fun i=>if i=k then ((1:Int),(1:Int)) else (0,1)).length=yn+i by rw [List.length_append,HLN.out];simp);have HVL:=ae (show vs.length=k by rw [T.out.rows.len];simp);have t0:=al T.out.box;have p1:=HX.out.cellSome P1.out;have he1:=HX.out.cellSome HE0.out;have hk0:(0:Int)<=(k:Int):=by omega
       have hk1:(k:Int)<(i:Int):=by omega
       clear hz2 hm1;go_upto_region 19 with fail;have hk3:Ext wr3 wr3.drew:=Ext.drew wr3;have hk2:Ext wr1 wr3.drew:=HX3.out.trans hk3;have HKEEP:=ae (fun (w':World) (h:Ext wr1 w')=>(⟨h.cellSome t0,h.cellSome p1,h.cellSome he1,HX.out.trans h⟩:w'.cell? ⟨w1.heap.size,0,none⟩=some va/\w'.cell? ⟨w.heap.size,1,none⟩=some (.slice (some ⟨eb,eoff,none⟩) i cb)/\w'.cell? ⟨eb,eoff+k,none⟩=some (.int .i64 bk)/\Ext w1 w'));refine ci (M:=[16]) (S:=fun w'=>w'.cell? ⟨w1.heap.size,0,none⟩=some va/\w'.cell? ⟨w.heap.size,1,none⟩=some (.slice (some ⟨eb,eoff,none⟩) i cb)/\w'.cell? ⟨eb,eoff+k,none⟩=some (.int .i64 bk)/\Ext w1 w') (by kernel_rfl) ?_;have hHeld:=HKEEP.out _ hk2;refine lp 0 ?_;refine ll 1 ?_;refine lp 2 ?_;refine lp 3 ?_;refine lp 4 ?_;refine ll 5 ?_;refine lp 6 ?_;refine lp 7 ?_;refine ll 8 ?_;refine lp 9 ?_;refine aG (i:=10) (oi:=?_) ?_ ?_ ?_ (fun K hK=>?_);rotate_left
       ·simp only [gA,gB,gC];rfl
       ·kernel_rfl
       ·kernel_rfl
       go_simp;go_at_call 86;refine (ce _ _).mono ?_;rintro e w5 ⟨rfl,hx5⟩;have hk3:Ext wr3 w5:=hk3.trans hx5;have hk2:Ext wr1 w5:=hk2.trans hx5;have hs5:=hk2.size;go_wp2_with fail;refine hK.out _ _ (fun _=>HKEEP.out _ hk2) ?_;have hHeld:=HKEEP.out _ hk2;clear hK K
       try simp only [Act.put,sA,sB,sC]
       refine aG (i:=11) (oi:=?_) ?_ ?_ ?_ (fun K hK=>?_);rotate_left
       ·simp only [gA,gB,gC];rfl
       ·kernel_rfl
       ·kernel_rfl
       go_simp;refine hK.out _ _ (fun _=>HKEEP.out _ (hk2.trans (Ext.alloc _ _))) ?_;clear hK K
       try simp only [Act.put,sA,sB,sC]
       refine aG (i:=12) (oi:=?_) ?_ ?_ ?_ (fun K hK=>?_);rotate_left
       ·simp only [gA,gB,gC];rfl
       ·kernel_rfl
       ·kernel_rfl
       refine dd _ _ (by rfl) wr1.heap.size (.slice a3 n3 q3) _ (by rfl) ((HO3.out.ext hk3).ext (Ext.alloc _ _)) _ 1 _ [(z2,1)] (by rfl) (Rats.one' _ _ _ _ _ rfl) (by rw [HLL.out];omega) (by simp;omega) ?_;intro v6 w6 ho hg hnear;obtain ⟨a6,n6,q6,rfl,HN6⟩:=ho.var;have HO6:=ae ho;have hk6:Ext wr1 w6:=aq (hk2.trans (Ext.alloc _ _)) hg (fun j hj=>(HO3.out.lt j hj).1);have hs6:=hk6.size;clear ho hg hnear;refine hK.out _ _ (fun _=>HKEEP.out _ hk6) ?_;have hHeld:=HKEEP.out _ hk6;clear hK K
       try simp only [Act.put,sA,sB,sC]
       refine aG (i:=13) (oi:=?_) ?_ ?_ ?_ (fun K hK=>?_);rotate_left
       ·simp only [gA,gB,gC];rfl
       ·kernel_rfl
       ·kernel_rfl
       go_simp;refine hK.out _ _ (fun _=>HKEEP.out _ (hk6.trans (Ext.alloc _ _))) ?_;clear hK K
       try simp only [Act.put,sA,sB,sC]
       refine aG (i:=14) (oi:=?_) ?_ ?_ ?_ (fun K hK=>?_);rotate_left
       ·simp only [gA,gB,gC];rfl
       ·kernel_rfl
       ·kernel_rfl
       refine dB _ _ (by rfl) w1.heap.size va vs (by rfl) ((T.out.a.ext hk6).ext (Ext.alloc _ _)) _ _ 1 (by rfl) (by simp;rfl) rfl (by rw [HVL.out];omega) (by simp;omega) ?_;intro v7 w7 ho hg hnear;obtain ⟨a7,n7,q7,rfl,HN7⟩:=ho.var;have HO7:=ae ho;have HG7:=ae hg;have hbx:=T.out.boxA (hk6.trans (Ext.alloc _ _)) hg;have c07:=al hbx;have cf7:=bK hbx;have hX7:Ext w1 w7:=aq ((HX.out.trans hk6).trans (Ext.alloc _ _)) hg (fun j hj=>(T.out.a.lt j hj).1);clear ho hg hnear hbx;refine hK.out _ _ (fun _=>And.intro c07 (And.intro (hX7.cellSome P1.out) (And.intro (hX7.cellSome HE0.out) hX7))) ?_;have hHeld:=And.intro c07 (And.intro (hX7.cellSome P1.out) (And.intro (hX7.cellSome HE0.out) hX7));clear hK K
       try simp only [Act.put,sA,sB,sC]
       refine lp 15 ?_;refine cq (i:=16) (oi:=?_) (w':=?_) ?_ ?_ ?_ ?_ ?_ ?_ ?_;rotate_left 2
       ·simp only [gA,gB,gC];rfl
       ·kernel_rfl
       ·kernel_rfl
       ·exact of_decide_eq_true (by kernel_rfl)
       ·rfl
       ·go_simp;(try with_reducible rfl)
       try simp only [Act.put,sA,sB,sC]
       refine cv (by kernel_rfl) ?_ _;have HT8:=ae (T.out.pushA (hk6.trans (Ext.alloc _ _)) (HO6.out.ext (Ext.alloc _ _)) hsr HG7.out HO7.out);have HX8:=ae (hX7.setCell (p:=⟨w1.heap.size,0,none⟩) (Nat.le_refl _) (.slice a7 n7 q7));obtain ⟨W8,hW8⟩:∃ x,x=w7.setCell ⟨w1.heap.size,0,none⟩ (.slice a7 n7 q7):=⟨_,rfl⟩;rw [<-hW8] at HT8 HX8;go_upto_region 20 with fail;rw [<-hW8];clear hW8 c07 cf7 hHeld;have b1:=am HT8.out.box;have p2:=Ext.cellSome HX8.out P2.out;have bf:=bK HT8.out.box;have hl8:=lt_of_block HT8.out.box;have HVB:=ae (show ((List.range k).map fun i=>((yn+i:Nat):Int)).length=k by simp)
       go_wp2_with (first
        | (at_builtin;refine bw rfl _ _ rfl w1.heap.size vb _ rfl (HT8.out.b.ext (Ext.alloc _ _)) _ 1 _ [(yn:Int)+(k:Int)] rfl (Ints.oneS _ _ _ _ (by simp)) (by rw [HVB.out];omega) (by simp;omega) ?_;intro v9 w9 ho hg hnear;obtain ⟨a9,n9,q9,rfl,HN9⟩:=ho.var;have HO9:=ae ho;have HG9:=ae hg;have hbx:=HT8.out.boxB (Ext.alloc _ _) hg;have c09:=am hbx;have cf9:=bK hbx;have hX9:Ext w1 w9:=aq (Ext.trans HX8.out (Ext.alloc _ _)) hg (fun j hj=>(HT8.out.b.lt j hj).1);clear ho hg hnear hbx))
       have HT9:=ae (HT8.out.pushB (Ext.alloc _ _) HG9.out HO9.out);have HXN:=ae (hX9.setCell (p:=⟨w1.heap.size,1,none⟩) (Nat.le_refl _) (.slice a9 n9 q9))
       go_roundg (g1-1)
       case measure=>have:=HK.out;omega
       case rel=>exact ⟨k+1,_,_,_,ae (by have:=HK.out;omega),by go_num,ae (by
        have h1:=HT9.out;rw [HRE.out,cK] at h1;have h2:((List.range k).map fun i=>((yn+i:Nat):Int))++[(yn:Int)+(k:Int)]=(List.range (k+1)).map fun i=>((yn+i:Nat):Int):=by
         rw [<-cK];simp
        rw [h2] at h1
        exact h1),HXN⟩
  ·have hkn:nb=k:=by have:=HK.out;omega
   subst hkn;have HTN:=ae (show OwnT wr1 w1.heap.size va vb vs (bC A B nc) by have:=T.out.own;unfold bC;rw [HLA.out];exact this);have t0:=al T.out.box;have t1:=am T.out.box;have t2:=ap T.out.box;obtain ⟨a7,n7,c7,rfl,HN7⟩:=T.out.a.var;obtain ⟨a8,n8,c8,rfl,HN8⟩:=T.out.b.var;have xw:=X1.out.trans HX.out;have r0:=al (xw.blk HGB.out);have r1:=am (xw.blk HGB.out);have r2:=ap (xw.blk HGB.out);have rf:=bK (xw.blk HGB.out);have XW:=ae xw;clear xw;go_wp2_with fail;refine bodyPost_ret (v:=.agg #[.slice a7 n7 c7,.slice a8 n8 c8,.int .i64 (nc:Int)]) (by simp [results,Tryz.results160,go_sem,r0,r1,r2,rf]) rfl ⟨⟨_,_,vs,rfl,?_⟩,(HX0.out.trans XW.out).set3 (Nat.le_succ _) _ _ _⟩;exact (HTN.out.keepAll fun k hk=>aV _ _ _ _ _ _ (by omega)).mono (by omega)
end
end Go.Proofs.YthjjfkeacobikaaGreat
