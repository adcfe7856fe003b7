import Derived.Test.YthjjfkeacobikaaGreatLeAllG10
import Derived.Test.YthjjfkeacobikaaGreatLeAllG11
import Derived.Test.YthjjfkeacobikaaGreatLeAllG0
import Derived.Test.YthjjfkeacobikaaGreatLeAllG4
set_option linter.unusedVariables false
set_option linter.unusedSimpArgs false
namespace Go.Proofs.YthjjfkeacobikaaGreat
set_option maxRecDepth 100000
open Go.RowKit
set_option maxHeartbeats 4000000 in
theorem kd {w:World} {k1 k2:Int} {a b:Option Addr} {n cap n' cap':Nat} {A B:List (Int × Int)} (h:Rats w a n cap A) (h':Rats w b n' cap' B) (hbig:n<=1048576) :
 Calls Tryz.prog 141 #[.slice a n cap,ratV k1 k2,.slice b n' cap'] w fun e w'=>(∃ v,e=.returned (.tuple #[v,.bool (sclL A (k1,k2) B).isSome])/\OwnR w' w.heap.size v ((sclL A (k1,k2) B).getD []))/\Ext w w':=by
 have HL:=ae h.hlen;have HL':=ae h'.hlen;have hmax:=h.hmax;have hcap:=h.hcap;have hmax':=h'.hmax;have hcap':=h'.hcap;have HA:=ae h;have HB':=ae h';have HX:=ae (Ext.alloc w (.cells #[.int .i64 k1,.int .i64 k2] 43));clear h h';by_cases hne:n=n'
 ·subst hne;have HS:=ae (show sclL A (k1,k2) B=runT (sclF A (k1,k2) B) n by unfold sclL;rw [HL.out,HL'.out,if_pos rfl]);have HO:=ae (OwnR.made (w.alloc (.cells #[.int .i64 k1,.int .i64 k2] 43)) (w.heap.size+1) (by simp));go_enter Tryz.func141,Tryz.ntmps141
  go_wp2_with fail
  go_loopg [8,22] n (fun gk o i wr=>∃ (k:Nat) (a1:Option Addr) (n1 p1:Nat) (r:List (Int × Int)),Hid (gk+k=n)/\i=.int .i64 (k:Int)/\o=.slice a1 n1 p1/\Hid (runT (sclF A (k1,k2) B) k=some r)/\Hid (OwnR wr (w.heap.size+1) (.slice a1 n1 p1) r)/\Hid (Ext (w.alloc (.cells #[.int .i64 k1,.int .i64 k2] 43)) wr))
  case atStart=>exact ⟨0,_,_,_,[],ae (by omega),rfl,rfl,ae rfl,ae (by simpa using HO.out),ae (Ext.alloc _ _)⟩
  case round =>
   obtain ⟨k,a1,n1,p1,r,HK,rfl,rfl,HR,HO1,HX1⟩:=hrel;have hszr:=HX1.out.size;rw [World.size_alloc] at hszr;by_cases hlt:k<n
   ·have hkc0:wr.cell? ⟨w.heap.size,0,none⟩=some (.int .i64 k1):=HX1.out.cellSome (by simp);have hkc1:wr.cell? ⟨w.heap.size,1,none⟩=some (.int .i64 k2):=HX1.out.cellSome (by simp);obtain ⟨ab,aoff,ax,ay,ha,hax,hac0,hac1⟩:=((HA.out.ext HX.out).ext HX1.out).at hlt;obtain ⟨bb,boff,bx,by',hb,hbx,hbc0,hbc1⟩:=((HB'.out.ext HX.out).ext HX1.out).at hlt;subst ha hb;have HAX:=ae hax;have HBX:=ae hbx;obtain ⟨p,q,one,hm⟩:∃ p q ok,mulR (k1,k2) (bx,by')=((p,q),ok):=⟨_,_,_,rfl⟩;have HM:=ae hm;obtain ⟨p2,q2,two,hs2⟩:∃ u v ok,addR (ax,ay) (p,q)=((u,v),ok):=⟨_,_,_,rfl⟩;have HS2:=ae hs2;clear hax hbx hm hs2;go_upto_region 7 with fail
    go_cut [10,11] (fun sx so wx=>∃ g:Nat,sx=.pointer (some ⟨g,0,none⟩)/\so=.bool one/\Hid (ah wr wx g p q))
    case first =>
     have hk2:Ext wr wr.drew:=Ext.drew wr;have hka:Ext wr (wr.alloc (.cells #[.int .i64 0,.int .i64 0] 43)).drew:=(Ext.alloc _ _).trans (Ext.drew _);have HKEEP:=ae (fun (w':World) (h:Ext wr w')=>(⟨h.cellSome hkc0,h.cellSome hkc1,h.cellSome hbc0,h.cellSome hbc1,h⟩:w'.cell? ⟨w.heap.size,0,none⟩=some (.int .i64 k1)/\w'.cell? ⟨w.heap.size,1,none⟩=some (.int .i64 k2)/\w'.cell? ⟨bb,boff+k*2,none⟩=some (.int .i64 bx)/\w'.cell? ⟨bb,boff+k*2+1,none⟩=some (.int .i64 by')/\Ext wr w'))
     go_region_held3 (fun w'=>w'.cell? ⟨w.heap.size,0,none⟩=some (.int .i64 k1)/\w'.cell? ⟨w.heap.size,1,none⟩=some (.int .i64 k2)/\w'.cell? ⟨bb,boff+k*2,none⟩=some (.int .i64 bx)/\w'.cell? ⟨bb,boff+k*2+1,none⟩=some (.int .i64 by')/\Ext wr w')
      (first
        | with_reducible exact HKEEP.out _ hk2
        | with_reducible exact HKEEP.out _ hka
        | with_reducible exact HKEEP.out _ ((hk2.setCell (by first|(simp;done)|(simp;omega)) _).setCell (by first|(simp;done)|(simp;omega)) _)
        | with_reducible exact HKEEP.out _ (hk2.trans (Ext.alloc _ _))
        | with_reducible exact HKEEP.out _ (hBB.put _ _).ext)
      (first
        | (go_at_call 210
           (with_reducible refine (oA k1 k2 bx by' _).mono ?_)
           rw [HM.out];rintro e w3 ⟨rfl,hx_w3⟩
           first|(with_reducible have hBB:=ah.grow hBB hx_w3)|(with_reducible have hBB:=ah.firstD hx_w3)|(with_reducible have hBB:=ah.laterD hk2 hx_w3)|skip
           first|(have b0_:=hBB.c0;have b1_:=hBB.c1;have fb_:=hBB.free)|skip
           have hk2:Ext wr w3:=by first|with_reducible exact hk2.trans hx_w3|with_reducible exact hka.trans hx_w3|with_reducible exact (hk2.trans (Ext.alloc _ _)).trans hx_w3
           have hk2s:=hk2.size)
        | fail)
     all_goals (go_wp2_with fail;go_meet;first|exact ⟨_,rfl,rfl,ae (hBB.put _ _)⟩|exact ⟨_,rfl,rfl,ae (ah.new hk2 _ _)⟩|exact ⟨_,rfl,rfl,ae (ah.new' hk2 _ _ (by simp))⟩)
    obtain ⟨g,rfl,rfl,HB1⟩:=hcut;have g0:=HB1.out.c0;have g1:=HB1.out.c1;replace hac0:=HB1.out.ext.cellSome hac0;replace hac1:=HB1.out.ext.cellSome hac1;clear hkc0 hkc1 hbc0 hbc1;go_upto_region 8 with fail
    go_cut [12,13] (fun sx so wx=>∃ g2:Nat,sx=.pointer (some ⟨g2,0,none⟩)/\so=.bool two/\Hid (ah wc wx g2 p2 q2))
    case first =>
     have hk2:Ext wc wc.drew:=Ext.drew wc;have hka:Ext wc (wc.alloc (.cells #[.int .i64 0,.int .i64 0] 43)).drew:=(Ext.alloc _ _).trans (Ext.drew _);have HKEEP:=ae (fun (w':World) (h:Ext wc w')=>(⟨h.cellSome hac0,h.cellSome hac1,h.cellSome g0,h.cellSome g1,h⟩:w'.cell? ⟨ab,aoff+k*2,none⟩=some (.int .i64 ax)/\w'.cell? ⟨ab,aoff+k*2+1,none⟩=some (.int .i64 ay)/\w'.cell? ⟨g,0,none⟩=some (.int .i64 p)/\w'.cell? ⟨g,1,none⟩=some (.int .i64 q)/\Ext wc w'))
     go_region_held3 (fun w'=>w'.cell? ⟨ab,aoff+k*2,none⟩=some (.int .i64 ax)/\w'.cell? ⟨ab,aoff+k*2+1,none⟩=some (.int .i64 ay)/\w'.cell? ⟨g,0,none⟩=some (.int .i64 p)/\w'.cell? ⟨g,1,none⟩=some (.int .i64 q)/\Ext wc w')
      (first
        | with_reducible exact HKEEP.out _ hk2
        | with_reducible exact HKEEP.out _ hka
        | with_reducible exact HKEEP.out _ ((hk2.setCell (by first|(simp;done)|(simp;omega)) _).setCell (by first|(simp;done)|(simp;omega)) _)
        | with_reducible exact HKEEP.out _ (hk2.trans (Ext.alloc _ _))
        | with_reducible exact HKEEP.out _ (hBB.put _ _).ext)
      (first
        | (go_at_call 169
           (with_reducible refine (ou ax ay p q _).mono ?_)
           rw [HS2.out];rintro e w4 ⟨rfl,hx_w4⟩
           first|(with_reducible have hBB:=ah.grow hBB hx_w4)|(with_reducible have hBB:=ah.firstD hx_w4)|(with_reducible have hBB:=ah.laterD hk2 hx_w4)|skip
           first|(have b0_:=hBB.c0;have b1_:=hBB.c1;have fb_:=hBB.free)|skip
           have hk2:Ext wc w4:=by first|with_reducible exact hk2.trans hx_w4|with_reducible exact hka.trans hx_w4|with_reducible exact (hk2.trans (Ext.alloc _ _)).trans hx_w4
           have hk2s:=hk2.size)
        | fail)
     all_goals (go_wp2_with fail;go_meet;first|exact ⟨_,rfl,rfl,ae (hBB.put _ _)⟩|exact ⟨_,rfl,rfl,ae (ah.new hk2 _ _)⟩|exact ⟨_,rfl,rfl,ae (ah.new' hk2 _ _ (by simp))⟩)
    obtain ⟨g2,rfl,rfl,HB2⟩:=hcut;have X2:=ae ((HX1.out.trans HB1.out.ext).trans HB2.out.ext);have HO2:=ae ((HO1.out.ext HB1.out.ext).ext HB2.out.ext);have h0:=HB2.out.c0;have h1:=HB2.out.c1;have HF:=ae (show sclF A (k1,k2) B k=if (one&&two)=true then some (p2,q2) else none by unfold sclF;rw [HAX.out,HBX.out,HM.out];simp only;rw [HS2.out];simp only [Bool.and_eq_true]);clear hac0 hac1 g0 g1;cases hb12:(one&&two)
    ·have HN:=ae (show runT (sclF A (k1,k2) B) n=none from fu HR.out (by rw [HF.out,hb12];rfl) hlt);cases one
     case' true=>(have h2:two=false:=by simpa using hb12);subst h2
     all_goals
      clear hb12;go_wp2_with fail;refine bodyPost_ret (v:=.tuple #[.slice none 0 0,.bool false]) (by simp [results,Tryz.results141,go_sem]) rfl ⟨⟨.slice none 0 0,by rw [HS.out,HN.out];rfl,by rw [HS.out,HN.out];exact OwnR.nil _ _⟩,HX.out.trans X2.out⟩
    ·obtain ⟨rfl,rfl⟩:one=true/\two=true:=by simpa using hb12
     have HR2:=ae (du (x:=(p2,q2)) HR.out (by rw [HF.out];rfl));have HLR:=ae (cI HR.out);have hszc:=X2.out.size;rw [World.size_alloc] at hszc;clear hb12
     go_wp2_with (first
      | (at_builtin;refine aG rfl _ _ rfl (w.heap.size+1) (.slice a1 n1 p1) _ rfl (HO2.out.ext (Ext.alloc _ _)) _ 1 _ [(p2,q2)] rfl (Rats.one' _ _ _ _ _ (by simp)) (by rw [HLR.out];omega) (by simp;omega) ?_;intro v2 w4 ho hg hnear;obtain ⟨a2,n2,c2,rfl,HN2⟩:=ho.var;have HO4:=ae ho;have X5:=ae (ak (X2.out.trans (Ext.alloc _ _)) hg (fun j hj=>by have:=(HO2.out.lt j hj).1;simpa using this));clear ho hg hnear))
     go_roundg (gk-1)
     case measure=>have:=HK.out;omega
     case rel=>exact ⟨k+1,a2,n2,c2,_,ae (by have:=HK.out;omega),by go_num,rfl,HR2,HO4,X5⟩
   ·have hkn:k=n:=by have:=HK.out;omega
    subst hkn;go_wp2_with fail;refine bodyPost_ret (v:=.tuple #[.slice a1 n1 p1,.bool true]) (by simp [results,Tryz.results141,go_sem]) rfl ⟨⟨.slice a1 n1 p1,by rw [HS.out,HR.out];rfl,by rw [HS.out,HR.out];exact HO1.out.mono (Nat.le_succ _)⟩,HX.out.trans HX1.out⟩
 ·have HN:=ae (show sclL A (k1,k2) B=none by unfold sclL;rw [HL.out,HL'.out,if_neg hne]);go_enter Tryz.func141,Tryz.ntmps141
  go_wp2_with fail;refine bodyPost_ret (v:=.tuple #[.slice none 0 0,.bool false]) (by simp [results,Tryz.results141,go_sem]) rfl ⟨⟨.slice none 0 0,by rw [HN.out];rfl,by rw [HN.out];exact OwnR.nil _ _⟩,HX.out⟩
theorem km {C:List Int} {k:Nat} (h:k<C.length):au (C.take k)++[(C[k]?.getD 0,1)]=au (C.take (k+1)):=by
 rw [cw h];simp [au]
def dT (C:List Int):List (Int × Int):=if fitL C=true then au C else []
set_option maxHeartbeats 4000000 in
theorem ox {w:World} {a:Option Addr} {n cap:Nat} {C:List Int} (h:Ints w a n cap C) (hbig:n<=1048576) :
 Calls Tryz.prog 240 #[.slice a n cap] w fun e w'=>(∃ v,e=.returned (.tuple #[v,.bool (fitL C)])/\OwnR w' w.heap.size v (dT C))/\Ext w w':=by
 have HL:=ae h.hlen;have hmax:=h.hmax;have hcap:=h.hcap;have HC:=ae h;clear h;have HO:=ae (OwnR.made w w.heap.size (Nat.le_refl _));go_enter Tryz.func240,Tryz.ntmps240
 go_wp2_with fail
 go_loopg [4,10] n (fun gk o i wr=>∃ (k:Nat) (a1:Option Addr) (n1 p1:Nat),Hid (gk+k=n)/\i=.int .i64 (k:Int)/\o=.slice a1 n1 p1/\Hid (fitL (C.take k)=true)/\Hid (OwnR wr w.heap.size (.slice a1 n1 p1) (au (C.take k)))/\Hid (Ext w wr))
 case atStart=>exact ⟨0,_,_,_,ae (by omega),rfl,rfl,ae rfl,HO,ae (Ext.alloc _ _)⟩
 case round =>
  obtain ⟨k,a1,n1,p1,HK,rfl,rfl,HF,HO1,HX1⟩:=hrel;by_cases hlt:k<n
  ·obtain ⟨b,off,ha,hc⟩:=(HC.out.ext HX1.out).at hlt;subst ha;obtain ⟨c,hcc⟩:∃ c,c=C[k]?.getD 0:=⟨_,rfl⟩;rw [<-hcc] at hc;have HCC:=ae hcc;have hszr:=HX1.out.size;clear hcc;have HKL:=ae (show k<C.length by have:=HL.out;omega);cases hin:inB c (-1000000000) 1000000000
   ·have HN:=ae (show fitL C=false by
     rw [<-Bool.not_eq_true];intro hh;have:=pX (k:=k) hh HKL.out
     rw [<-HCC.out,hin] at this;cases this)
    have HI:=ae (aX c (-1000000000) 1000000000 wr);rw [hin] at HI;clear hin;go_wp2_with fail;refine HI.out.mono ?_;rintro e w2 ⟨rfl,rfl⟩;go_wp2_with fail;refine bodyPost_ret (v:=.tuple #[.slice none 0 0,.bool false]) (by simp [results,Tryz.results240,go_sem]) rfl ⟨⟨.slice none 0 0,by rw [HN.out],by unfold dT;rw [HN.out];exact OwnR.nil _ _⟩,HX1.out⟩
   ·have HF2:=ae (show fitL (C.take (k+1))=true by
     unfold fitL;rw [cw HKL.out,List.all_append];have:=HF.out;unfold fitL at this;rw [this,<-HCC.out]
     simp only [List.all_cons,List.all_nil,hin,Bool.and_self])
    have HI:=ae (aX c (-1000000000) 1000000000 wr);rw [hin] at HI;clear hin;go_wp2_with fail;refine HI.out.mono ?_;rintro e w2 ⟨rfl,rfl⟩;have HLW:=ae (show (au (C.take k)).length=k by rw [ew,List.length_take];have:=HKL.out;omega)
    go_wp2_with (first
     | (go_at_call 112;refine (cK c _).mono ?_;rintro e w3 ⟨rfl,hx3⟩;have HX3:=ae hx3;have HO3:=ae (HO1.out.ext hx3);have hsz3:=hx3.size;clear hx3)
     | (at_builtin;refine aG rfl _ _ rfl w.heap.size (.slice a1 n1 p1) _ rfl (HO3.out.ext (Ext.alloc _ _)) _ 1 _ [(c,1)] rfl (Rats.one' _ _ _ _ _ (by simp)) (by rw [HLW.out];omega) (by simp;omega) ?_;intro v2 w4 ho hg hnear;obtain ⟨a2,n2,c2,rfl,HN2⟩:=ho.var;have HO4:=ae ho;have X4:=ae (ak ((HX1.out.trans HX3.out).trans (Ext.alloc _ _)) hg (fun j hj=>(HO3.out.lt j hj).1));clear ho hg hnear))
    go_roundg (gk-1)
    case measure=>have:=HK.out;omega
    case rel=>exact ⟨k+1,a2,n2,c2,ae (by have:=HK.out;omega),by go_num,rfl,HF2,ae (by have:=HO4.out;rw [HCC.out,km HKL.out] at this;exact this),X4⟩
  ·have hkn:k=n:=by have:=HK.out;omega
   subst hkn;have HT:=ae (show C.take k=C from List.take_of_length_le (by rw [HL.out];exact Nat.le_refl _));go_wp2_with fail;refine bodyPost_ret (v:=.tuple #[.slice a1 n1 p1,.bool true]) (by simp [results,Tryz.results240,go_sem]) rfl ⟨⟨.slice a1 n1 p1,?_,?_⟩,HX1.out⟩
   ·have:=HF.out;rw [HT.out] at this;rw [this]
   ·have h1:=HF.out;have h2:=HO1.out;rw [HT.out] at h1 h2;unfold dT;rw [if_pos h1];exact h2
set_option maxHeartbeats 400000 in
theorem hI {w:World} {a:Option Addr} {n cap:Nat} {C:List Int} (h:Ints w a n cap C) (hbig:n<=1048576) :
 Calls Tryz.prog 179 #[.slice a n cap] w fun e w'=>(∃ v,e=.returned v/\OwnR w' w.heap.size v (dT C))/\Ext w w':=by
 have HI:=ae (ox h hbig);clear h;go_enter Tryz.func179,Tryz.ntmps179
 go_wp2_with fail;refine HI.out.mono ?_;rintro e w1 ⟨⟨v,rfl,ho⟩,hx⟩;have HO:=ae ho;have HX:=ae hx;clear ho hx;go_wp2_with fail;go_ret;exact ⟨⟨v,rfl,HO.out⟩,HX.out⟩
def negR (r:Int × Int):Int × Int:=(-r.1,r.2)
structure Tb where
 rows:List (List (Int × Int))
 basis:List Int
 cols:Int
def Tb.row (t:Tb) (i:Nat):List (Int × Int):=t.rows[i]?.getD []
def Tb.at (t:Tb) (i j:Nat):Int × Int:=(t.row i)[j]?.getD (0,0)
def tbOk (t:Tb):Bool :=
 inB t.cols 0 1000&&(decide (t.basis.length=t.rows.length)&&(t.basis.all (fun b=>inB b 0 (t.cols+t.rows.length-1))&&t.rows.all (fun r=>decide ((r.length:Int)=t.cols+t.rows.length+1))))
def divF (A:List (Int × Int)) (p:Int × Int) (i:Nat):Option (Int × Int):=if (divR (A[i]?.getD (0,0)) p).2=true then some (divR (A[i]?.getD (0,0)) p).1 else none
def divL (A:List (Int × Int)) (p:Int × Int):Option (List (Int × Int)):=runT (divF A p) A.length
def pivF (t:Tb) (row col:Nat) (main:List (Int × Int)) (st:List (List (Int × Int))) (i:Nat):Option (List (List (Int × Int))) :=
 if (i=row ∨ t.at i col=(0,1)) then some st else (sclL (t.row i) (negR (t.at i col)) main).map fun r=>st.set i r
def pivN (t:Tb) (row col:Nat) (main:List (Int × Int)):Nat->Option (List (List (Int × Int)))
 | 0=>some (t.rows.set row main)
 | k+1=>(pivN t row col main k).bind fun st=>pivF t row col main st k
def fG (t:Tb) (row col:Nat):Option Tb :=
 (divL (t.row row) (t.at row col)).bind fun main=>(pivN t row col main t.rows.length).map fun rs=>⟨rs,t.basis.set row (col:Int),t.cols⟩
def dU (t:Tb) (row col:Int):Bool:=tbOk t&&(inB row 0 (t.rows.length-1)&&inB col 0 (t.cols+t.rows.length-1))
def bu (t:Tb) (row col:Int):Option Tb:=if dU t row col=true then fG t row.toNat col.toNat else none
def cJ (t:Tb) (cost:List (Int × Int)):Nat->Option (List (Int × Int))
 | 0=>some (cost++[(0,1)])
 | k+1=>(cJ t cost k).bind fun out=>sclL out (negR (cost[(t.basis[k]?.getD 0).toNat]?.getD (0,0))) (t.row k)
def kW (t:Tb) (cost:List (Int × Int)):Bool:=tbOk t&&(decide ((cost.length:Int)=t.cols+t.rows.length)&&allV cost)
def ce (t:Tb) (cost:List (Int × Int)):Option (List (Int × Int)):=if kW t cost=true then cJ t cost t.rows.length else none
def solN (t:Tb):Nat->List (Int × Int)
 | 0=>List.replicate (t.cols.toNat+t.rows.length) (0,1)
 | k+1=>(solN t k).set (t.basis[k]?.getD 0).toNat (t.at k (t.cols.toNat+t.rows.length))
def solT (t:Tb):List (Int × Int):=if tbOk t=true then solN t t.rows.length else []
def eI (c:Int × Int):Bool:=decide (cmpR c (0,1)<0)
def bp (costs:List (Int × Int)) (last:Int):Int:=if (costs.length:Int)<last then -1 else bV eI (costs.take last.toNat)
def dt (t:Tb) (col:Nat) (st:Int × (Int × Int)) (i:Nat):Int × (Int × Int) :=
 if cmpR (t.at i col) (0,1)<=0 then st
 else if (divR (t.at i (t.cols.toNat+t.rows.length)) (t.at i col)).2=false then st
 else if st.1<0 ∨ cmpR (divR (t.at i (t.cols.toNat+t.rows.length)) (t.at i col)).1 st.2<0 ∨ (cmpR (divR (t.at i (t.cols.toNat+t.rows.length)) (t.at i col)).1 st.2=0/\t.basis[i]?.getD 0<t.basis[st.1.toNat]?.getD 0)
  then ((i:Int),(divR (t.at i (t.cols.toNat+t.rows.length)) (t.at i col)).1) else st
def bL (t:Tb) (col:Nat):Nat->Int × (Int × Int)
 | 0=>(-1,(0,0))
 | k+1=>dt t col (bL t col k) k
def cq (t:Tb) (col:Int):Int:=if (tbOk t&&inB col 0 (t.cols+t.rows.length-1))=true then (bL t col.toNat t.rows.length).1 else -1
structure Ph where
 t:Tb
 left:Nat
 costs:List (Int × Int)
 col:Int
def aV (cost:List (Int × Int)):Nat->Tb->Option Ph
 | f,t=>match ce t cost with
   | none=>none
   | some cs =>
     if bp cs t.cols<0 then some ⟨t,f,cs,-1⟩
     else if cq t (bp cs t.cols)<0 then some ⟨t,f,cs,bp cs t.cols⟩
     else match f with
      | 0=>none
      | f+1=>match bu t (cq t (bp cs t.cols)) (bp cs t.cols) with
        | none=>none
        | some t'=>aV cost f t'
def offZ (c:Int × Int):Bool:=decide (c ≠ (0,1))
def fZ (n:Nat) (s:Tb × Nat) (k:Nat):Option (Tb × Nat) :=
 if s.1.basis[k]?.getD 0<n then some s
 else if bV offZ ((s.1.row k).take n)<0 then some s
 else match s.2 with
  | 0=>none
  | f+1=>(bu s.1 k (bV offZ ((s.1.row k).take n))).map fun t=>(t,f)
def bo (n:Nat) (s:Tb × Nat):Nat->Option (Tb × Nat)
 | 0=>some s
 | k+1=>(bo n s k).bind fun s'=>fZ n s' k
def sideI (b:Int):Int:=if b<0 then -1 else 1
def lY (m i:Nat):List (Int × Int):=(List.range m).map fun k=>if k=i then (1,1) else (0,1)
def cg (A:List (List Int)) (B:List Int) (i:Nat):List (Int × Int) :=
 ((A[i]?.getD []).map fun x=>(sideI (B[i]?.getD 0)*x,1))++lY A.length i++[(sideI (B[i]?.getD 0)*B[i]?.getD 0,1)]
def bF (A:List (List Int)) (B:List Int) (n:Nat):Tb:=⟨(List.range A.length).map (cg A B),(List.range A.length).map fun i=>((n+i:Nat):Int),n⟩
def dotN (A B:List (Int × Int)):Nat->Option (Int × Int)
 | 0=>some (0,1)
 | k+1=>(dotN A B k).bind fun s=>if (mulR (A[k]?.getD (0,0)) (B[k]?.getD (0,0))).2=true/\(addR s (mulR (A[k]?.getD (0,0)) (B[k]?.getD (0,0))).1).2=true
     then some (addR s (mulR (A[k]?.getD (0,0)) (B[k]?.getD (0,0))).1).1 else none
def dotL (A B:List (Int × Int)):Option (Int × Int):=if A.length=B.length then dotN A B A.length else none
def okLP (A:List (List Int)) (B:List Int) (C:List (Int × Int)):Bool :=
 decide (C.length<=70)&&(decide (A.length<=8)&&(decide (B.length=A.length)&&(allV C&&(A.all (fun r=>decide (r.length=C.length)&&r.all (inB · (-5000) 5000))&&B.all (inB · (-5000) 5000)))))
def colL (A:List (List Int)) (j:Nat):List Int:=A.map fun r=>r[j]?.getD 0
def posV (x:List (Int × Int)):Bool:=x.all fun r=>valR r&&decide (0<=r.1)
def dd (A:List (List Int)) (x:List (Int × Int)) (B:List Int):Bool:=(List.range A.length).all fun i=>decide (dotL (au (A[i]?.getD [])) x=some (B[i]?.getD 0,1))
def dj (A:List (List Int)) (B:List Int) (n:Nat) (x:List (Int × Int)):Bool:=decide (x.length=n)&&(posV x&&dd A x B)
structure LpR where
 status:Int
 X:List (Int × Int)
 Y:List (Int × Int)
 ray:List (Int × Int)
 value:Int × Int
 pivots:Int
deriving DecidableEq
def aO (s:Int):LpR:=⟨s,[],[],[],(0,0),0⟩
def aK (A:List (List Int)) (Y C:List (Int × Int)) (j:Nat):Bool :=
 match dotL Y (au (colL A j)) with
 | none=>false
 | some v=>(subR (C[j]?.getD (0,0)) v).2&&decide (0<=(subR (C[j]?.getD (0,0)) v).1.1)
def bh (A:List (List Int)) (Y C:List (Int × Int)) (j:Nat):Bool :=
 match dotL Y (au (colL A j)) with
 | none=>false
 | some v=>decide (0<=cmpR (C[j]?.getD (0,0)) v)
def gL (B:List Int) (C:List (Int × Int)) (r:LpR):Bool :=
 match dotL C r.X,dotL r.Y (au B) with
 | some x,some y=>decide (x=y)&&decide (x=r.value)
 | _,_=>false
def jN (A:List (List Int)) (B:List Int) (n:Nat) (Y:List (Int × Int)):Bool :=
 (List.range n).all (fun j=>match dotL Y (au (colL A j)) with|none=>false|some v=>decide (v.1<=0))&&(match dotL Y (au B) with|none=>false|some v=>decide (0<v.1))
def rayB (A:List (List Int)) (B:List Int) (C:List (Int × Int)) (ray:List (Int × Int)):Bool :=
 decide (ray.length=C.length)&&(posV ray&&(dd A ray (List.replicate B.length 0)&&(match dotL C ray with|none=>false|some v=>decide (v.1<0))))
def aD (bound:List (List Int)->List (Int × Int)->List (Int × Int)->Nat->Bool) (A:List (List Int)) (B:List Int) (C:List (Int × Int)) (r:LpR):Bool :=
 if r.status=1 then dj A B C.length r.X&&(decide (r.Y.length=B.length)&&((List.range C.length).all (bound A r.Y C)&&gL B C r))
 else if r.status=2 then decide (r.Y.length=B.length)&&jN A B C.length r.Y
 else if r.status=3 then dj A B C.length r.X&&rayB A B C r.ray
 else false
def sgnR (b:Int) (y:Int × Int):Int × Int:=if b<0 then negR y else y
def eR (B:List Int) (base:Int × Int) (cs:List (Int × Int)) (n i:Nat):Option (Int × Int) :=
 if (subR base (cs[n+i]?.getD (0,0))).2=true then some (sgnR (B[i]?.getD 0) (subR base (cs[n+i]?.getD (0,0))).1) else none
def dw (B:List Int) (cs:List (Int × Int)) (n i:Nat):Int × Int:=sgnR (B[i]?.getD 0) (negR (cs[n+i]?.getD (0,0)))
def rayN (t:Tb) (n col:Nat):Nat->List (Int × Int)
 | 0=>(List.range n).map fun j=>if j=col then (1,1) else (0,1)
 | k+1=>if t.basis[k]?.getD 0<n then (rayN t n col k).set (t.basis[k]?.getD 0).toNat (negR (t.at k col)) else rayN t n col k
def dD (n m:Nat):List (Int × Int):=List.replicate n (0,1)++List.replicate m (1,1)
def bY (C:List (Int × Int)) (m:Nat):List (Int × Int):=C++List.replicate m (0,1)
def rawT (A:List (List Int)) (B:List Int) (C:List (Int × Int)):Option LpR :=
 (aV (dD C.length B.length) 1000 (bF A B C.length)).bind fun p1 =>
   if (p1.costs[C.length+B.length]?.getD (0,0)).1<0 then
    (runT (eR B (1,1) p1.costs C.length) B.length).map fun Y=>⟨2,[],Y,[],(0,0),1000-p1.left⟩
   else (bo C.length (p1.t,p1.left) B.length).bind fun s=>(aV (bY C B.length) s.2 s.1).map fun p2 =>
    if 0<=p2.col then ⟨3,(solT p2.t).take C.length,[],rayN p2.t C.length p2.col.toNat B.length,(0,0),1000-p2.left⟩
    else ⟨1,(solT p2.t).take C.length,(List.range B.length).map (dw B p2.costs C.length),[],negR (p2.costs[C.length+B.length]?.getD (0,0)),1000-p2.left⟩
def bO (bound:List (List Int)->List (Int × Int)->List (Int × Int)->Nat->Bool) (A:List (List Int)) (B:List Int) (C:List (Int × Int)):LpR :=
 if okLP A B C=true then
  match rawT A B C with
  | none=>aO 4
  | some r=>if aD bound A B C r=true then r else aO 4
 else aO 0
def Fr (p:Int × Int) (x D:Int):Prop:=valR p=true/\0<D/\p.1*D=x*p.2
theorem ic {p:Int × Int} (h:valR p=true):gI p.1 p.2=1:=by
 simp only [valR,Bool.and_eq_true,decide_eq_true_eq] at h;exact h.2.2
theorem jP {p:Int × Int} (h1:1<=p.2) (h2:p.2<=1000000000) (h3:-1000000000<=p.1) (h4:p.1<=1000000000) (h5:gI p.1 p.2=1):valR p=true:=by
 simp only [valR,inB,Bool.and_eq_true,decide_eq_true_eq];omega
theorem gW (a b:Int):gI a b=1 ↔ Nat.Coprime a.natAbs b.natAbs:=by unfold gI Int.gcd Nat.Coprime;omega
theorem oL {a b c d:Int} (hb:0<b) (hd:0<d) (h1:gI a b=1) (h2:gI c d=1) (h:a*d=c*b):a=c/\b=d:=by
 rw [gW] at h1 h2;have hn:a.natAbs*d.natAbs=c.natAbs*b.natAbs:=by rw [<-Int.natAbs_mul,<-Int.natAbs_mul,h]
 have e1:b.natAbs ∣ d.natAbs:=Nat.Coprime.dvd_of_dvd_mul_left h1.symm ⟨c.natAbs,by rw [hn,Nat.mul_comm]⟩;have e2:d.natAbs ∣ b.natAbs:=Nat.Coprime.dvd_of_dvd_mul_left h2.symm ⟨a.natAbs,by rw [<-hn,Nat.mul_comm]⟩;have e3:b=d:=by have:=Nat.dvd_antisymm e1 e2;omega
 subst e3;exact ⟨Int.eq_of_mul_eq_mul_right (by omega) h,rfl⟩
theorem Fr.eq {p q:Int × Int} {x D y E:Int} (h:Fr p x D) (k:Fr q y E) (e:x*E=y*D):p=q:=by
 obtain ⟨h1,h2,h3⟩:=h;obtain ⟨k1,k2,k3⟩:=k;have hb:=(aU h1).1;have kb:=(aU k1).1;have key:(p.1*q.2)*(D*E)=(q.1*p.2)*(D*E):=by grind
 have hDE:D*E ≠ 0:=Int.mul_ne_zero (by omega) (by omega);have:=oL (by omega) (by omega) (ic h1) (ic k1) (Int.eq_of_mul_eq_mul_right hDE key);exact Prod.ext this.1 this.2
theorem Fr.int (c:Int) (h:-1000000000<=c) (h':c<=1000000000):Fr (c,1) c 1 :=
 ⟨jP (by simp) (by simp) h h' (by rw [gW];simp),by omega,rfl⟩
theorem Fr.self {p:Int × Int} (h:valR p=true):Fr p p.1 p.2:=⟨h,by have:=(aU h).1;omega,rfl⟩
theorem kr (n d:Int) (hd:0<d):1<=gI n d/\n=gI n d*n.tdiv (gI n d)/\d=gI n d*d.tdiv (gI n d)/\0<d.tdiv (gI n d):=by
 have hg:=jr n (show d ≠ 0 by omega);obtain ⟨k,hk⟩:=me n d;obtain ⟨m,hm⟩:=jJ n d;have h1:n.tdiv (gI n d)=k:=by
    conv=>lhs;arg 1;rw [hk]
    exact Int.mul_tdiv_cancel_left _ (by omega)
 have h2:d.tdiv (gI n d)=m:=by
    conv=>lhs;arg 1;rw [hm]
    exact Int.mul_tdiv_cancel_left _ (by omega)
 rw [h1,h2];refine ⟨hg,hk,hm,?_⟩
 rcases Int.lt_or_le 0 m with h|h
 ·exact h
 ·have:gI n d*m<=0:=Int.mul_nonpos_of_nonneg_of_nonpos (by omega) h;omega
theorem nw {n d:Int} (hd:0<d) (hn:-1000000000000000000<=n/\n<=1000000000000000000) (hd':d<=1000000000000000000):aL n d=cutR (n.tdiv (gI n d),d.tdiv (gI n d)):=by
 unfold aL;rw [if_neg (by simp [inB];omega),if_neg (by omega)]
theorem rA {n d x D:Int} (hd:0<d) (hD:0<D) (hn:-1000000000000000000<=n/\n<=1000000000000000000) (hd':d<=1000000000000000000) (hx:-1000000000000000000<=x/\x<=1000000000000000000) (hD':D<=1000000000000000000) (e:n*D=x*d):aL n d=aL x D:=by
 rw [nw hd hn hd',nw hD hx hD'];obtain ⟨g1,g2,g3,g4⟩:=kr n d hd;obtain ⟨k1,k2,k3,k4⟩:=kr x D hD;have key:(n.tdiv (gI n d)*D.tdiv (gI x D))*(gI n d*gI x D)=(x.tdiv (gI x D)*d.tdiv (gI n d))*(gI n d*gI x D):=by
  have a1:(n.tdiv (gI n d)*D.tdiv (gI x D))*(gI n d*gI x D)=(gI n d*n.tdiv (gI n d))*(gI x D*D.tdiv (gI x D)):=by grind
  have a2:(x.tdiv (gI x D)*d.tdiv (gI n d))*(gI n d*gI x D)=(gI x D*x.tdiv (gI x D))*(gI n d*d.tdiv (gI n d)):=by grind
  rw [a1,a2,<-g2,<-g3,<-k2,<-k3,e]
 have hne:gI n d*gI x D ≠ 0:=Int.mul_ne_zero (by omega) (by omega);have:=oL g4 k4 (jq n d hd) (jq x D hD) (Int.eq_of_mul_eq_mul_right hne key);rw [this.1,this.2]
theorem kz {n d:Int} (hd:0<d) (h:(aL n d).2=true):Fr (aL n d).1 n d:=by
 refine ⟨gj h,hd,?_⟩;unfold aL at h ⊢
 split at h
 ·simp at h
 ·next h0 =>
  rw [if_neg h0]
  split at h
  ·omega
  ·next h1 =>
   rw [if_neg h1];unfold cutR at h ⊢
   split at h
   ·next h2 =>
    rw [if_pos h2];obtain ⟨g1,g2,g3,g4⟩:=kr n d hd;simp only;generalize n.tdiv (gI n d)=k at *;generalize d.tdiv (gI n d)=m at *;generalize gI n d=g at *;subst g2;grind
   ·simp at h
theorem kA {n d x D:Int} (hd:0<d) (hn:-1000000000000000000<=n/\n<=1000000000000000000) (hd':d<=1000000000000000000) (hD:0<D) (hD':D<=1000000000) (hx:-1000000000<=x/\x<=1000000000) (e:n*D=x*d) :
 ∃ r,aL n d=(r,true)/\Fr r x D:=by
 have h1:=rA hd hD hn hd' (by omega) (by omega) e;have h2:=ratOf_ok (n:=x) (d:=D) (by omega) hD' hx.1 hx.2;exact ⟨(aL x D).1,by rw [h1,<-h2],kz hD h2⟩
theorem bd18 {p q:Int} (h:-1000000000<=p/\p<=1000000000) (k:-1000000000<=q/\q<=1000000000):-1000000000000000000<=p*q/\p*q<=1000000000000000000:=mul_bd h.1 h.2 k.1 k.2
theorem Fr.add {p q:Int × Int} {x D y E z F:Int} (h:Fr p x D) (k:Fr q y E) (hF:0<F) (hF':F<=1000000000) (hz:-1000000000<=z/\z<=1000000000) (hs:-1000000000000000000<=p.1*q.2+q.1*p.2/\p.1*q.2+q.1*p.2<=1000000000000000000) (e:(x*E+y*D)*F=z*(D*E)):∃ r,addR p q=(r,true)/\Fr r z F:=by
 obtain ⟨h1,h2,h3⟩:=h;obtain ⟨k1,k2,k3⟩:=k;have hb:=aU h1;have kb:=aU k1;have hp:0<p.2*q.2:=Int.mul_pos (by omega) (by omega);have hDE:D*E ≠ 0:=Int.mul_ne_zero (by omega) (by omega);unfold addR;rw [if_pos (by rw [h1,k1];rfl)];refine kA hp hs (bd18 ⟨by omega,hb.2.1⟩ ⟨by omega,kb.2.1⟩).2 hF hF' hz ?_;refine Int.eq_of_mul_eq_mul_right hDE ?_;have:(p.1*q.2+q.1*p.2)*F*(D*E)=((p.1*D)*(q.2*E)+(q.1*E)*(p.2*D))*F:=by grind
 rw [this,h3,k3];have:(x*p.2*(q.2*E)+y*q.2*(p.2*D))*F=((x*E+y*D)*F)*(p.2*q.2):=by grind
 rw [this,e];grind
theorem Fr.neg {p:Int × Int} {x D:Int} (h:Fr p x D):Fr (-p.1,p.2) (-x) D :=
 ⟨by rw [fT];exact h.1,h.2.1,by have:=h.2.2;simp only;grind⟩
theorem Fr.sub {p q:Int × Int} {x D y E z F:Int} (h:Fr p x D) (k:Fr q y E) (hF:0<F) (hF':F<=1000000000) (hz:-1000000000<=z/\z<=1000000000) (hs:-1000000000000000000<=p.1*q.2-q.1*p.2/\p.1*q.2-q.1*p.2<=1000000000000000000) (e:(x*E-y*D)*F=z*(D*E)):∃ r,subR p q=(r,true)/\Fr r z F:=by
 rw [<-kM];exact h.add k.neg hF hF' hz (by simp only;rw [Int.neg_mul];omega) (by grind)
theorem Fr.size {p:Int × Int} {x D:Int} (h:Fr p x D):p.2<=D/\p.1.natAbs<=x.natAbs:=by
 obtain ⟨h1,h2,h3⟩:=h;have hb:=aU h1;have hc:=ic h1;rw [gW] at hc;have hn:p.1.natAbs*D.natAbs=x.natAbs*p.2.natAbs:=by rw [<-Int.natAbs_mul,<-Int.natAbs_mul,h3]
 have e1:p.2.natAbs ∣ D.natAbs:=Nat.Coprime.dvd_of_dvd_mul_left hc.symm ⟨x.natAbs,by rw [hn,Nat.mul_comm]⟩;have e2:=Nat.le_of_dvd (by omega) e1;refine ⟨by omega,?_⟩;have e3:p.1.natAbs*p.2.natAbs<=x.natAbs*p.2.natAbs:=by rw [<-hn];exact Nat.mul_le_mul_left _ e2
 exact Nat.le_of_mul_le_mul_right e3 (by omega)
end Go.Proofs.YthjjfkeacobikaaGreat
