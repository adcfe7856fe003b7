import Derived.Test.YthjjfkeacobikaaGreatPuAllG9
set_option linter.unusedVariables false
set_option linter.unusedSimpArgs false
namespace Go.Proofs.YthjjfkeacobikaaGreat
set_option maxRecDepth 100000
open Go.RowKit
structure LrC (w:World) (xa:Option Addr) (xn xc:Nat) (ya:Option Addr) (yn yc:Nat) (ra:Option Addr) (rn rc:Nat) (r:LpR):Prop where
 x:Rats w xa xn xc r.X
 y:Rats w ya yn yc r.Y
 ray:Rats w ra rn rc r.ray
theorem LrC.ext {w w':World} {xa:Option Addr} {xn xc:Nat} {ya:Option Addr} {yn yc:Nat} {ra:Option Addr} {rn rc:Nat} {r:LpR} (h:LrC w xa xn xc ya yn yc ra rn rc r) (hx:Ext w w'):LrC w' xa xn xc ya yn yc ra rn rc r:=⟨h.x.ext hx,h.y.ext hx,h.ray.ext hx⟩
abbrev lrW (r:LpR) (xa:Option Addr) (xn xc:Nat) (ya:Option Addr) (yn yc:Nat) (ra:Option Addr) (rn rc:Nat):Value :=
 .agg #[.int .i64 r.status,.slice xa xn xc,.slice ya yn yc,.slice ra rn rc,.int .i64 r.value.1,.int .i64 r.value.2,.int .i64 r.pivots]
abbrev bS (r:LpR) (xa:Option Addr) (xn xc:Nat) (ya:Option Addr) (yn yc:Nat) (ra:Option Addr) (rn rc:Nat):Obj :=
 .cells #[.int .i64 r.status,.slice xa xn xc,.slice ya yn yc,.slice ra rn rc,.int .i64 r.value.1,.int .i64 r.value.2,.int .i64 r.pivots] 113
theorem fp {A:List (List Int)} (h:∀ i,i<A.length->∀ x ∈ A[i]?.getD [],-5000<=x/\x<=5000) (j:Nat):∀ x ∈ colL A j,-5000<=x/\x<=5000:=by
 intro x hx;obtain ⟨r,hr,rfl⟩:=List.mem_map.1 hx;obtain ⟨i,hi,rfl⟩:=List.mem_iff_getElem.1 hr;by_cases hj:j<A[i].length
 ·rw [List.getElem?_eq_getElem hj];exact h i hi _ (by rw [List.getElem?_eq_getElem hi];exact List.getElem_mem _)
 ·rw [List.getElem?_eq_none (by omega)];simp
theorem iY (A:List (List Int)) (j:Nat):(colL A j).length=A.length:=by simp [colL]
theorem ng {A:List (List Int)} {Y C:List (Int × Int)} {j:Nat} (h:dotL Y (aw (colL A j))=none):aK A Y C j=false:=by unfold aK;rw [h]
theorem nh {A:List (List Int)} {Y C:List (Int × Int)} {j:Nat} {v c:Int × Int} (h:dotL Y (aw (colL A j))=some v) (hc:C[j]?.getD (0,0)=c):aK A Y C j=((subR c v).2&&decide (0<=(subR c v).1.1)):=by unfold aK;rw [h,hc]
def gX (x y:Option (Int × Int)) (v:Int × Int):Bool:=match x,y with|some x,some y=>decide (x=y)&&decide (x=v)|_,_=>false
theorem mo (B:List Int) (C:List (Int × Int)) (r:LpR):gl B C r=gX (dotL C r.X) (dotL r.Y (aw B)) r.value:=rfl
theorem gY (x:Option (Int × Int)) (v:Int × Int):gX none x v=false/\gX x none v=false:=by cases x <;> exact ⟨rfl,rfl⟩
theorem jP (x1 x2 y1 y2 v1 v2:Int):gX (some (x1,x2)) (some (y1,y2)) (v1,v2)=(((x1 == y1)&&(x2 == y2))&&((x1 == v1)&&(x2 == v2))):=by
 simp only [gX];rw [Bool.eq_iff_iff];simp
section
variable {w:World} {a:Option Addr} {na ca:Nat} {b:Option Addr} {nb cb:Nat} {c:Option Addr} {nc cc:Nat} {A:List (List Int)} {B:List Int} {C:List (Int × Int)}
 {xa:Option Addr} {xn xc:Nat} {ya:Option Addr} {yn yc:Nat} {ra:Option Addr} {rn rc:Nat} {r:LpR}
structure Two (w W:World) (a:Option Addr) (na ca:Nat) (b:Option Addr) (nb cb:Nat) (c:Option Addr) (nc cc:Nat) (xa:Option Addr) (xn xc:Nat) (ya:Option Addr) (yn yc:Nat) (ra:Option Addr) (rn rc:Nat) (r:LpR) (A:List (List Int)) (B:List Int) (C:List (Int × Int)):Prop where
 ext:Ext ((w.alloc (bm a na ca b nb cb c nc cc)).alloc (bS r xa xn xc ya yn yc ra rn rc)) W
 lp:LpC W a na ca b nb cb c nc cc A B C
 lr:LrC W xa xn xc ya yn yc ra rn rc r
theorem Two.grow {W W':World} (h:Two w W a na ca b nb cb c nc cc xa xn xc ya yn yc ra rn rc r A B C) (hx:Ext W W'):Two w W' a na ca b nb cb c nc cc xa xn xc ya yn yc ra rn rc r A B C:=⟨h.ext.trans hx,h.lp.ext hx,h.lr.ext hx⟩
theorem Two.all {W:World} (h:Two w W a na ca b nb cb c nc cc xa xn xc ya yn yc ra rn rc r A B C):Ext w W:=((Ext.alloc _ _).trans (Ext.alloc _ _)).trans h.ext
theorem Two.p {W:World} (h:Two w W a na ca b nb cb c nc cc xa xn xc ya yn yc ra rn rc r A B C):W.cell? ⟨w.heap.size,0,none⟩=some (.slice a na ca)/\W.cell? ⟨w.heap.size,1,none⟩=some (.slice b nb cb)/\W.cell? ⟨w.heap.size,2,none⟩=some (.slice c nc cc) :=
 ⟨h.ext.cellSome (by simp),h.ext.cellSome (by simp),h.ext.cellSome (by simp)⟩
theorem Two.q {W:World} (h:Two w W a na ca b nb cb c nc cc xa xn xc ya yn yc ra rn rc r A B C):W.cell? ⟨w.heap.size+1,0,none⟩=some (.int .i64 r.status)/\W.cell? ⟨w.heap.size+1,1,none⟩=some (.slice xa xn xc)/\W.cell? ⟨w.heap.size+1,2,none⟩=some (.slice ya yn yc)/\W.cell? ⟨w.heap.size+1,3,none⟩=some (.slice ra rn rc)/\W.cell? ⟨w.heap.size+1,4,none⟩=some (.int .i64 r.value.1)/\W.cell? ⟨w.heap.size+1,5,none⟩=some (.int .i64 r.value.2) :=
 ⟨h.ext.cellSome (by simp),h.ext.cellSome (by simp),h.ext.cellSome (by simp),h.ext.cellSome (by simp),h.ext.cellSome (by simp),h.ext.cellSome (by simp)⟩
set_option maxHeartbeats 16000000 in
theorem oD (h:LpC w a na ca b nb cb c nc cc A B C) (h':LrC w xa xn xc ya yn yc ra rn rc r) (ok:okLP A B C=true) (hs:r.status=1) :
 Calls Tryz.prog 199 #[lpW a na ca b nb cb c nc cc,lrW r xa xn xc ya yn yc ra rn rc] w fun e w'=>e=.returned (.bool (aH aK A B C r))/\Ext w w':=by
 obtain ⟨r1,r2,r3,r4,r5,r6⟩:=cg h ok;subst r3;have T0:=ae (show Two w ((w.alloc (bm a nb ca b nb cb c nc cc)).alloc (bS r xa xn xc ya yn yc ra rn rc)) a nb ca b nb cb c nc cc xa xn xc ya yn yc ra rn rc r A B C from ⟨Ext.refl _,(h.ext (Ext.alloc _ _)).ext (Ext.alloc _ _),(h'.ext (Ext.alloc _ _)).ext (Ext.alloc _ _)⟩);have hy1:=h'.y.hcap;have hy2:=h'.y.hmax;have hc1:=h.c.hcap;have hc2:=h.c.hmax;have hb1:=h.b.hcap;have hb2:=h.b.hmax;have HLC:=ae h.c.hlen;have HLB:=ae h.b.hlen;have HLA:=ae h.a.hlen;have HLY:=ae h'.y.hlen;have HE:=ae (show aH aK A B C r=(dt A B C.length r.X&&(decide (r.Y.length=B.length)&&((List.range C.length).all (aK A r.Y C)&&gl B C r))) by unfold aH;rw [if_pos hs]);have HR4:=ae r4;have HCS:=ae (fun j=>fp (A:=A) (fun i hi=>(r5 i (by have:=h.a.hlen;omega)).2) j);have HBS:=ae r6;obtain ⟨st,rX,rY,rr,rv,rp⟩:=r;obtain ⟨v1,v2⟩:=rv;simp only at hs HE HLY;subst hs;have HV:=ae (dJ T0.out.lp);rw [ok] at HV;clear h h' r4 r5 r6;have HFB:=ae (fun (W:World) (t:Two w W a nb ca b nb cb c nc cc xa xn xc ya yn yc ra rn rc ⟨1,rX,rY,rr,(v1,v2),rp⟩ A B C)=>ir t.lp t.lr.x);rw [ok] at HFB;simp only [Bool.true_and] at HFB;cases hf:dt A B C.length rX
 ·rw [hf] at HFB HE;clear hf;go_enter Tryz.func199,Tryz.ntmps199
  go_wp2_with fail;refine HV.out.mono ?_;rintro e w1 ⟨rfl,hx⟩;have T1:=ae (T0.out.grow hx);obtain ⟨p0,p1,p2⟩:=T1.out.p;obtain ⟨q0,q1,q2,q3,q4,q5⟩:=T1.out.q;clear hx;go_wp2_with fail;refine (HFB.out _ T1.out).mono ?_;rintro e w2 ⟨rfl,hx⟩;have T2:=ae (T1.out.grow hx);clear hx;go_wp2_with fail;go_ret;exact ⟨ag (by rw [HE.out];rfl),T2.out.all⟩
 ·rw [hf] at HFB HE;clear hf;by_cases hyb:yn=nb
  ·subst hyb;have hyy:((yn:Int) != (yn:Int))=false:=by simp
   have HE2:=ae (show aH aK A B C ⟨1,rX,rY,rr,(v1,v2),rp⟩=((List.range nc).all (aK A rY C)&&gl B C ⟨1,rX,rY,rr,(v1,v2),rp⟩) by rw [HE.out,HLY.out,HLB.out,HLC.out,decide_eq_true rfl];rfl);go_enter Tryz.func199,Tryz.ntmps199
   go_wp2_with fail;refine HV.out.mono ?_;rintro e w1 ⟨rfl,hx⟩;have T1:=ae (T0.out.grow hx);obtain ⟨p0,p1,p2⟩:=T1.out.p;obtain ⟨q0,q1,q2,q3,q4,q5⟩:=T1.out.q;clear hx;go_wp2_with fail;refine (HFB.out _ T1.out).mono ?_;rintro e w2 ⟨rfl,hx⟩;have T2:=ae (T1.out.grow hx);clear hx p0 p1 p2 q0 q1 q2 q3 q4 q5;obtain ⟨p0,p1,p2⟩:=T2.out.p;obtain ⟨q0,q1,q2,q3,q4,q5⟩:=T2.out.q;go_wp2_with fail
   go_loopg [46] nc (fun gk ii wr=>∃ k:Nat,Hid (gk+k=nc)/\ii=.int .i64 (k:Int)/\Hid ((List.range k).all (aK A rY C)=true)/\Hid (Two w wr a yn ca b yn cb c nc cc xa xn xc ya yn yc ra rn rc ⟨1,rX,rY,rr,(v1,v2),rp⟩ A B C))
   case atStart=>exact ⟨0,ae (by omega),rfl,ae rfl,T2⟩
   case round =>
    obtain ⟨g1,h_g1⟩:∃ x,x=gk:=⟨_,rfl⟩;subst h_g1;obtain ⟨wr1,h_wr1⟩:∃ x,x=wr:=⟨_,rfl⟩;subst h_wr1;obtain ⟨k,HK,rfl,HA,T⟩:=hrel;clear p0 p1 p2 q0 q1 q2 q3 q4 q5;by_cases hlt:k<nc
    ·obtain ⟨zb,zoff,cx,cy,hza,hxy,hz0,hz1⟩:=T.out.lp.c.at hlt;subst hza;have HXY:=ae hxy;clear hxy;obtain ⟨E,hE⟩:∃ E,E=wr1.alloc (.cells #[.int .i64 cx,.int .i64 cy] 43):=⟨_,rfl⟩;have hxE:Ext wr1 E:=by rw [hE];exact Ext.alloc _ _
     have TE:=ae (T.out.grow hxE);have HB0:=ae (show ah wr1 E wr1.heap.size cx cy by rw [hE];exact ah.new (Ext.refl _) _ _);go_upto_region 10 with fail;rw [<-hE];clear hE hxE hz0 hz1;obtain ⟨p0,p1,p2⟩:=TE.out.p;obtain ⟨q0,q1,q2,q3,q4,q5⟩:=TE.out.q;have HCL:=ae (iY A k);obtain ⟨dv,hdv⟩:∃ d,d=dotL rY (aw (colL A k)):=⟨_,rfl⟩;have HDV:=ae hdv.symm;obtain ⟨d1,d2,dok,hdd⟩:∃ x y ok,optR dv=((x,y),ok):=⟨_,_,_,rfl⟩;have HDD:=ae hdd;have HRC:=ae (show dC (colL A k)=aw (colL A k) from eD (HCS.out k));clear hdv hdd;go_upto_region 10 with fail
     go_cut [7,8] (fun sx so wx=>∃ g:Nat,sx=.pointer (some ⟨g,0,none⟩)/\so=.bool dok/\Hid (ah E wx g d1 d2))
     case first =>
      have hk2:Ext E E.drew:=Ext.drew E;have hka:Ext E (E.alloc (.cells #[.int .i64 0,.int .i64 0] 43)).drew:=(Ext.alloc _ _).trans (Ext.drew _);have HKEEP:=ae (fun (w':World) (h:Ext E w')=>(⟨h.cellSome p0,h.cellSome p1,h.cellSome p2,h.cellSome q2,h⟩:w'.cell? ⟨w.heap.size,0,none⟩=some (.slice a yn ca)/\w'.cell? ⟨w.heap.size,1,none⟩=some (.slice b yn cb)/\w'.cell? ⟨w.heap.size,2,none⟩=some (.slice (some ⟨zb,zoff,none⟩) nc cc)/\w'.cell? ⟨w.heap.size+1,2,none⟩=some (.slice ya yn yc)/\Ext E w'))
      go_region_held3 (fun w'=>w'.cell? ⟨w.heap.size,0,none⟩=some (.slice a yn ca)/\w'.cell? ⟨w.heap.size,1,none⟩=some (.slice b yn cb)/\w'.cell? ⟨w.heap.size,2,none⟩=some (.slice (some ⟨zb,zoff,none⟩) nc cc)/\w'.cell? ⟨w.heap.size+1,2,none⟩=some (.slice ya yn yc)/\Ext E w')
       (first
         | with_reducible exact HKEEP.out _ hk2
         | with_reducible exact HKEEP.out _ hka
         | with_reducible exact HKEEP.out _ ((hk2.setCell (by first|(simp;done)|(simp;omega)) _).setCell (by first|(simp;done)|(simp;omega)) _)
         | with_reducible exact HKEEP.out _ (hk2.trans (Ext.alloc _ _))
         | with_reducible exact HKEEP.out _ (hBB.put _ _).ext)
       (first
         | (go_at_call 255
            (with_reducible refine (lX (b:=b) (nb:=yn) (cb:=cb) (c:=some ⟨zb,zoff,none⟩) (nc:=nc) (cc:=cc) (TE.out.lp.a.ext (by first|with_reducible exact hk2|with_reducible exact hka|with_reducible exact hk2.trans (Ext.alloc _ _))) HR4.out hlt (by omega) (by omega)).mono ?_)
            rintro e w3 ⟨⟨v3,rfl,ho3⟩,hx_w3⟩;obtain ⟨a3,n3,c3,rfl,hn3⟩:=ho3.var
            first|(with_reducible have hBB:=ah.grow hBB hx_w3)|(with_reducible have hBB:=ah.firstD hx_w3)|(with_reducible have hBB:=ah.laterD hk2 hx_w3)|skip
            first|(have b0_:=hBB.c0;have b1_:=hBB.c1;have fb_:=hBB.free)|skip
            have hk2:Ext E w3:=by first|with_reducible exact hk2.trans hx_w3|with_reducible exact hka.trans hx_w3|with_reducible exact (hk2.trans (Ext.alloc _ _)).trans hx_w3
            have hk2s:=hk2.size)
         | (go_at_call 179
            (with_reducible refine (fO (by first|with_reducible exact ho3.ints|with_reducible exact (ho3.ext (Ext.alloc _ _)).ints) (by have:=hn3.out;have:=HCL.out;have:=HLA.out;omega)).mono ?_)
            rw [HRC.out];rintro e w4 ⟨⟨v4,rfl,ho4⟩,hx_w4⟩;obtain ⟨a4,n4,c4,rfl,hn4⟩:=ho4.var
            first|(with_reducible have hBB:=ah.grow hBB hx_w4)|(with_reducible have hBB:=ah.firstD hx_w4)|(with_reducible have hBB:=ah.laterD hk2 hx_w4)|skip
            first|(have b0_:=hBB.c0;have b1_:=hBB.c1;have fb_:=hBB.free)|skip
            have hk2:Ext E w4:=by first|with_reducible exact hk2.trans hx_w4|with_reducible exact hka.trans hx_w4|with_reducible exact (hk2.trans (Ext.alloc _ _)).trans hx_w4
            have hk2s:=hk2.size)
         | (go_at_call 254
            (with_reducible refine (eB (TE.out.lr.y.ext (by first|with_reducible exact hk2|with_reducible exact hka|with_reducible exact hk2.trans (Ext.alloc _ _))) (by first|with_reducible exact ho4.rats|with_reducible exact (ho4.ext (Ext.alloc _ _)).rats)).mono ?_)
            rw [HDV.out,HDD.out];rintro e w5 ⟨rfl,hx_w5⟩
            first|(with_reducible have hBB:=ah.grow hBB hx_w5)|(with_reducible have hBB:=ah.firstD hx_w5)|(with_reducible have hBB:=ah.laterD hk2 hx_w5)|skip
            first|(have b0_:=hBB.c0;have b1_:=hBB.c1;have fb_:=hBB.free)|skip
            have hk2:Ext E w5:=by first|with_reducible exact hk2.trans hx_w5|with_reducible exact hka.trans hx_w5|with_reducible exact (hk2.trans (Ext.alloc _ _)).trans hx_w5
            have hk2s:=hk2.size)
         | fail)
      all_goals (go_wp2_with fail;go_meet;first|exact ⟨_,rfl,rfl,ae (hBB.put _ _)⟩|exact ⟨_,rfl,rfl,ae (ah.new hk2 _ _)⟩|exact ⟨_,rfl,rfl,ae (ah.new' hk2 _ _ (by simp))⟩)
     obtain ⟨g,rfl,rfl,HB1⟩:=hcut;have HB2:=ae (HB0.out.grow HB1.out.ext);have TW:=ae (TE.out.grow HB1.out.ext);clear p0 p1 p2 q0 q1 q2 q3 q4 q5;have c0:=HB2.out.c0;have c1:=HB2.out.c1;have g0:=HB1.out.c0;have g1':=HB1.out.c1;obtain ⟨l1,l2,lok,hll⟩:∃ x y ok,subR (cx,cy) (d1,d2)=((x,y),ok):=⟨_,_,_,rfl⟩;have HSB:=ae (je cx cy d1 d2 wc);rw [hll] at HSB;have HLL:=ae hll;clear hll;go_wp2_with fail;refine HSB.out.mono ?_;rintro e w6 ⟨rfl,hx⟩;have TX:=ae ((TW.out.grow hx).grow (Ext.alloc _ (.cells #[.int .i64 l1,.int .i64 l2] 43)));clear hx;cases dv with
     | none =>
       have hdk:dok=false:=by have:=HDD.out;simp only [optR] at this;simpa using (congrArg Prod.snd this).symm
       subst hdk;have HF:=ae (show aH aK A B C ⟨1,rX,rY,rr,(v1,v2),rp⟩=false by rw [HE2.out,cM hlt (ng HDV.out)];rfl);go_wp2_with fail;go_ret;exact ⟨ag HF.out.symm,TX.out.all⟩
     | some dvv =>
       have hdk:dok=true:=by have:=HDD.out;simp only [optR] at this;simpa using (congrArg Prod.snd this).symm
       have hdv2:dvv=(d1,d2):=by have:=HDD.out;simp only [optR] at this;simpa using congrArg Prod.fst this
       subst hdk hdv2;have HBI:=ae (show aK A rY C k=(lok&&decide (0<=l1)) by rw [nh HDV.out HXY.out,HLL.out]);cases lok
       ·have HF:=ae (show aH aK A B C ⟨1,rX,rY,rr,(v1,v2),rp⟩=false by rw [HE2.out,cM hlt (by rw [HBI.out];rfl)];rfl);go_wp2_with fail;go_ret;exact ⟨ag HF.out.symm,TX.out.all⟩
       ·by_cases hl0:l1<0
        ·have HF:=ae (show aH aK A B C ⟨1,rX,rY,rr,(v1,v2),rp⟩=false by rw [HE2.out,cM hlt (by rw [HBI.out,decide_eq_false (by omega)];rfl)];rfl);go_wp2_with fail;go_ret;exact ⟨ag HF.out.symm,TX.out.all⟩
        ·have HT:=ae (show (List.range (k+1)).all (aK A rY C)=true by rw [eZ,HA.out,HBI.out,decide_eq_true (by omega)];rfl);go_wp2_with fail
         go_roundg (g1-1)
         case measure=>have:=HK.out;omega
         case rel=>exact ⟨k+1,ae (by have:=HK.out;omega),by go_num,HT,TX⟩
    ·have hkn:nc=k:=by have:=HK.out;omega
     subst hkn;have HE3:=ae (show aH aK A B C ⟨1,rX,rY,rr,(v1,v2),rp⟩=gl B C ⟨1,rX,rY,rr,(v1,v2),rp⟩ by rw [HE2.out,HA.out];rfl);obtain ⟨p0,p1,p2⟩:=T.out.p;obtain ⟨q0,q1,q2,q3,q4,q5⟩:=T.out.q;obtain ⟨dx,hdx⟩:∃ d,d=dotL C rX:=⟨_,rfl⟩;obtain ⟨dy,hdy⟩:∃ d,d=dotL rY (aw B):=⟨_,rfl⟩;have HM:=ae (show gl B C ⟨1,rX,rY,rr,(v1,v2),rp⟩=gX dx dy (v1,v2) by rw [mo,hdx,hdy]);obtain ⟨x1,x2,xok,hxx⟩:∃ x y ok,optR dx=((x,y),ok):=⟨_,_,_,rfl⟩;obtain ⟨y1,y2,yok,hyy2⟩:∃ x y ok,optR dy=((x,y),ok):=⟨_,_,_,rfl⟩;have HXX:=ae hxx;have HYY:=ae hyy2;have HDX:=ae (eB T.out.lp.c T.out.lr.x);have HDY:=ae hdy.symm;rw [<-hdx,hxx] at HDX;have HRB:=ae (show dC B=aw B from eD HBS.out);clear hdx hdy hxx hyy2;go_wp2_with fail;refine HDX.out.mono ?_;rintro e w3 ⟨rfl,hx⟩;clear p0 p1 p2 q0 q1 q2 q3 q4 q5;obtain ⟨E,hE⟩:∃ E,E=w3.alloc (.cells #[.int .i64 x1,.int .i64 x2] 43):=⟨_,rfl⟩;have hxE:Ext w3 E:=by rw [hE];exact Ext.alloc _ _
     have TE:=ae ((T.out.grow hx).grow hxE);have HB0:=ae (show ah w3 E w3.heap.size x1 x2 by rw [hE];exact ah.new (Ext.refl _) _ _);go_upto_region 16 with fail;rw [<-hE];clear hE hxE hx;obtain ⟨p0,p1,p2⟩:=TE.out.p;obtain ⟨q0,q1,q2,q3,q4,q5⟩:=TE.out.q;go_upto_region 16 with fail
     go_cut [13,14] (fun sx so wx=>∃ g:Nat,sx=.pointer (some ⟨g,0,none⟩)/\so=.bool yok/\Hid (ah E wx g y1 y2))
     case first =>
      have hk2:Ext E E.drew:=Ext.drew E;have hka:Ext E (E.alloc (.cells #[.int .i64 0,.int .i64 0] 43)).drew:=(Ext.alloc _ _).trans (Ext.drew _);have HKEEP:=ae (fun (w':World) (h:Ext E w')=>(⟨h.cellSome p1,h.cellSome q2,h⟩:w'.cell? ⟨w.heap.size,1,none⟩=some (.slice b yn cb)/\w'.cell? ⟨w.heap.size+1,2,none⟩=some (.slice ya yn yc)/\Ext E w'))
      go_region_held3 (fun w'=>w'.cell? ⟨w.heap.size,1,none⟩=some (.slice b yn cb)/\w'.cell? ⟨w.heap.size+1,2,none⟩=some (.slice ya yn yc)/\Ext E w')
       (first
         | with_reducible exact HKEEP.out _ hk2
         | with_reducible exact HKEEP.out _ hka
         | with_reducible exact HKEEP.out _ ((hk2.setCell (by first|(simp;done)|(simp;omega)) _).setCell (by first|(simp;done)|(simp;omega)) _)
         | with_reducible exact HKEEP.out _ (hk2.trans (Ext.alloc _ _))
         | with_reducible exact HKEEP.out _ (hBB.put _ _).ext)
       (first
         | (go_at_call 179
            (with_reducible refine (fO (TE.out.lp.b.ext (by first|with_reducible exact hk2|with_reducible exact hka|with_reducible exact hk2.trans (Ext.alloc _ _))) (by omega)).mono ?_)
            rw [HRB.out];rintro e w4 ⟨⟨v4,rfl,ho4⟩,hx_w4⟩;obtain ⟨a4,n4,c4,rfl,hn4⟩:=ho4.var
            first|(with_reducible have hBB:=ah.grow hBB hx_w4)|(with_reducible have hBB:=ah.firstD hx_w4)|(with_reducible have hBB:=ah.laterD hk2 hx_w4)|skip
            first|(have b0_:=hBB.c0;have b1_:=hBB.c1;have fb_:=hBB.free)|skip
            have hk2:Ext E w4:=by first|with_reducible exact hk2.trans hx_w4|with_reducible exact hka.trans hx_w4|with_reducible exact (hk2.trans (Ext.alloc _ _)).trans hx_w4
            have hk2s:=hk2.size)
         | (go_at_call 254
            (with_reducible refine (eB (TE.out.lr.y.ext (by first|with_reducible exact hk2|with_reducible exact hka|with_reducible exact hk2.trans (Ext.alloc _ _))) (by first|with_reducible exact ho4.rats|with_reducible exact (ho4.ext (Ext.alloc _ _)).rats)).mono ?_)
            rw [HDY.out,HYY.out];rintro e w5 ⟨rfl,hx_w5⟩
            first|(with_reducible have hBB:=ah.grow hBB hx_w5)|(with_reducible have hBB:=ah.firstD hx_w5)|(with_reducible have hBB:=ah.laterD hk2 hx_w5)|skip
            first|(have b0_:=hBB.c0;have b1_:=hBB.c1;have fb_:=hBB.free)|skip
            have hk2:Ext E w5:=by first|with_reducible exact hk2.trans hx_w5|with_reducible exact hka.trans hx_w5|with_reducible exact (hk2.trans (Ext.alloc _ _)).trans hx_w5
            have hk2s:=hk2.size)
         | fail)
      all_goals (go_wp2_with fail;go_meet;first|exact ⟨_,rfl,rfl,ae (hBB.put _ _)⟩|exact ⟨_,rfl,rfl,ae (ah.new hk2 _ _)⟩|exact ⟨_,rfl,rfl,ae (ah.new' hk2 _ _ (by simp))⟩)
     obtain ⟨g,rfl,rfl,HB1⟩:=hcut;have HB2:=ae (HB0.out.grow HB1.out.ext);have TW:=ae (TE.out.grow HB1.out.ext);clear p0 p1 p2 q0 q1 q2 q3 q4 q5;obtain ⟨p0,p1,p2⟩:=TW.out.p;obtain ⟨q0,q1,q2,q3,q4,q5⟩:=TW.out.q;have c0:=HB2.out.c0;have c1:=HB2.out.c1;have g0:=HB1.out.c0;have g1':=HB1.out.c1;cases dx with
     | none =>
       have hdk:xok=false:=by have:=HXX.out;simp only [optR] at this;simpa using (congrArg Prod.snd this).symm
       subst hdk;go_wp2_with fail;go_ret;exact ⟨ag (by rw [HE3.out,HM.out,(gY _ _).1]),TW.out.all⟩
     | some xv =>
       have hdk:xok=true:=by have:=HXX.out;simp only [optR] at this;simpa using (congrArg Prod.snd this).symm
       have hdv2:xv=(x1,x2):=by have:=HXX.out;simp only [optR] at this;simpa using congrArg Prod.fst this
       subst hdk hdv2;cases dy with
       | none =>
         have hdk:yok=false:=by have:=HYY.out;simp only [optR] at this;simpa using (congrArg Prod.snd this).symm
         subst hdk;go_wp2_with fail;go_ret;exact ⟨ag (by rw [HE3.out,HM.out,(gY _ _).2]),TW.out.all⟩
       | some yv =>
         have hdk:yok=true:=by have:=HYY.out;simp only [optR] at this;simpa using (congrArg Prod.snd this).symm
         have hdv2:yv=(y1,y2):=by have:=HYY.out;simp only [optR] at this;simpa using congrArg Prod.fst this
         subst hdk hdv2;have HM2:=ae (show aH aK A B C ⟨1,rX,rY,rr,(v1,v2),rp⟩=(((x1 == y1)&&(x2 == y2))&&((x1 == v1)&&(x2 == v2))) by rw [HE3.out,HM.out,jP]);cases h1:(x1 == y1)
         all_goals
          cases h2:(x2 == y2)
         all_goals
          have HM3:=ae HM2.out;rw [h1,h2] at HM3
         all_goals try (
          have HF:=ae (show aH aK A B C ⟨1,rX,rY,rr,(v1,v2),rp⟩=false by rw [HM3.out];rfl);go_wp2_with fail;go_ret
          exact ⟨ag HF.out.symm,TW.out.all⟩)
         cases h3:(x1 == v1)
         all_goals
          cases h4:(x2 == v2)
         all_goals
          rw [h3,h4] at HM3;go_wp2_with fail;go_ret;exact ⟨ag (by rw [HM3.out];rfl),TW.out.all⟩
  ·have hyy:((yn:Int) != (nb:Int))=true:=by simp;omega
   have HF:=ae (show aH aK A B C ⟨1,rX,rY,rr,(v1,v2),rp⟩=false by rw [HE.out,HLY.out,HLB.out,decide_eq_false hyb];rfl);go_enter Tryz.func199,Tryz.ntmps199
   go_wp2_with fail;refine HV.out.mono ?_;rintro e w1 ⟨rfl,hx⟩;have T1:=ae (T0.out.grow hx);obtain ⟨p0,p1,p2⟩:=T1.out.p;obtain ⟨q0,q1,q2,q3,q4,q5⟩:=T1.out.q;clear hx;go_wp2_with fail;refine (HFB.out _ T1.out).mono ?_;rintro e w2 ⟨rfl,hx⟩;have T2:=ae (T1.out.grow hx);clear hx p0 p1 p2 q0 q1 q2 q3 q4 q5;obtain ⟨p0,p1,p2⟩:=T2.out.p;obtain ⟨q0,q1,q2,q3,q4,q5⟩:=T2.out.q;go_wp2_with fail;go_ret;exact ⟨ag HF.out.symm,T2.out.all⟩
end
end Go.Proofs.YthjjfkeacobikaaGreat
namespace Go.Proofs.YthjjfkeacobikaaGreat
set_option maxRecDepth 100000
open Go.RowKit
def noO (x:Option (Int × Int)):Bool:=match x with|none=>false|some v=>decide (v.1<=0)
def posO (x:Option (Int × Int)):Bool:=match x with|none=>false|some v=>decide (0<v.1)
def negO (x:Option (Int × Int)):Bool:=match x with|none=>false|some v=>decide (v.1<0)
def noF (A:List (List Int)) (Y:List (Int × Int)) (j:Nat):Bool:=noO (dotL Y (aw (colL A j)))
theorem jT (A:List (List Int)) (B:List Int) (n:Nat) (Y:List (Int × Int)):iF A B n Y=((List.range n).all (noF A Y)&&posO (dotL Y (aw B))):=rfl
theorem nY (A:List (List Int)) (B:List Int) (C:List (Int × Int)) (ray:List (Int × Int)):rayB A B C ray=((decide (ray.length=C.length)&&posV ray)&&(cU A ray (List.replicate B.length 0)&&negO (dotL C ray))):=by
 unfold rayB;rw [Bool.and_assoc];rfl
section
variable {w:World} {a:Option Addr} {na ca:Nat} {b:Option Addr} {nb cb:Nat} {c:Option Addr} {nc cc:Nat} {A:List (List Int)} {B:List Int} {C:List (Int × Int)}
 {xa:Option Addr} {xn xc:Nat} {ya:Option Addr} {yn yc:Nat} {ra:Option Addr} {rn rc:Nat} {r:LpR}
set_option maxHeartbeats 16000000 in
theorem oE (h:LpC w a na ca b nb cb c nc cc A B C) (h':LrC w xa xn xc ya yn yc ra rn rc r) (ok:okLP A B C=true) (hs:r.status=2) :
 Calls Tryz.prog 199 #[lpW a na ca b nb cb c nc cc,lrW r xa xn xc ya yn yc ra rn rc] w fun e w'=>e=.returned (.bool (aH aK A B C r))/\Ext w w':=by
 obtain ⟨r1,r2,r3,r4,r5,r6⟩:=cg h ok;subst r3;have T0:=ae (show Two w ((w.alloc (bm a nb ca b nb cb c nc cc)).alloc (bS r xa xn xc ya yn yc ra rn rc)) a nb ca b nb cb c nc cc xa xn xc ya yn yc ra rn rc r A B C from ⟨Ext.refl _,(h.ext (Ext.alloc _ _)).ext (Ext.alloc _ _),(h'.ext (Ext.alloc _ _)).ext (Ext.alloc _ _)⟩);have hy1:=h'.y.hcap;have hy2:=h'.y.hmax;have hc1:=h.c.hcap;have hc2:=h.c.hmax;have hb1:=h.b.hcap;have hb2:=h.b.hmax;have HLC:=ae h.c.hlen;have HLB:=ae h.b.hlen;have HLA:=ae h.a.hlen;have HLY:=ae h'.y.hlen;have HE:=ae (show aH aK A B C r=(decide (r.Y.length=B.length)&&iF A B C.length r.Y) by unfold aH;rw [if_neg (by omega),if_pos hs]);have HR4:=ae r4;have HCS:=ae (fun j=>fp (A:=A) (fun i hi=>(r5 i (by have:=h.a.hlen;omega)).2) j);have HBS:=ae r6;obtain ⟨st,rX,rY,rr,rv,rp⟩:=r;obtain ⟨v1,v2⟩:=rv;simp only at hs HE HLY;subst hs;have HV:=ae (dJ T0.out.lp);rw [ok] at HV;clear h h' r4 r5 r6;have HS0:((2:Int) == 1)=false:=by decide
 by_cases hyb:yn=nb
 ·subst hyb;have hyy:((yn:Int) != (yn:Int))=false:=by simp
  have HE2:=ae (show aH aK A B C ⟨2,rX,rY,rr,(v1,v2),rp⟩=((List.range nc).all (noF A rY)&&posO (dotL rY (aw B))) by rw [HE.out,HLY.out,HLB.out,HLC.out,decide_eq_true rfl,jT];rfl);go_enter Tryz.func199,Tryz.ntmps199
  go_wp2_with fail;refine HV.out.mono ?_;rintro e w1 ⟨rfl,hx⟩;have T1:=ae (T0.out.grow hx);obtain ⟨p0,p1,p2⟩:=T1.out.p;obtain ⟨q0,q1,q2,q3,q4,q5⟩:=T1.out.q;clear hx;go_wp2_with fail
  go_loopg [123] nc (fun gk ii wr=>∃ k:Nat,Hid (gk+k=nc)/\ii=.int .i64 (k:Int)/\Hid ((List.range k).all (noF A rY)=true)/\Hid (Two w wr a yn ca b yn cb c nc cc xa xn xc ya yn yc ra rn rc ⟨2,rX,rY,rr,(v1,v2),rp⟩ A B C))
  case atStart=>exact ⟨0,ae (by omega),rfl,ae rfl,T1⟩
  case round =>
   obtain ⟨g1,h_g1⟩:∃ x,x=gk:=⟨_,rfl⟩;subst h_g1;obtain ⟨wr1,h_wr1⟩:∃ x,x=wr:=⟨_,rfl⟩;subst h_wr1;obtain ⟨k,HK,rfl,HA,T⟩:=hrel;clear p0 p1 p2 q0 q1 q2 q3 q4 q5;by_cases hlt:k<nc
   ·go_upto_region 24 with fail;obtain ⟨p0,p1,p2⟩:=T.out.p;obtain ⟨q0,q1,q2,q3,q4,q5⟩:=T.out.q;have HCL:=ae (iY A k);obtain ⟨dv,hdv⟩:∃ d,d=dotL rY (aw (colL A k)):=⟨_,rfl⟩;have HDV:=ae hdv.symm;obtain ⟨d1,d2,dok,hdd⟩:∃ x y ok,optR dv=((x,y),ok):=⟨_,_,_,rfl⟩;have HDD:=ae hdd;have HRC:=ae (show dC (colL A k)=aw (colL A k) from eD (HCS.out k));have HNF:=ae (show noF A rY k=noO dv by unfold noF;rw [hdv]);clear hdv hdd;go_upto_region 24 with fail
    go_cut [16,17] (fun sx so wx=>∃ g:Nat,sx=.pointer (some ⟨g,0,none⟩)/\so=.bool dok/\Hid (ah wr1 wx g d1 d2))
    case first =>
     have hk2:Ext wr1 wr1.drew:=Ext.drew wr1;have hka:Ext wr1 (wr1.alloc (.cells #[.int .i64 0,.int .i64 0] 43)).drew:=(Ext.alloc _ _).trans (Ext.drew _);have HKEEP:=ae (fun (w':World) (h:Ext wr1 w')=>(⟨h.cellSome p0,h.cellSome p1,h.cellSome p2,h.cellSome q2,h⟩:w'.cell? ⟨w.heap.size,0,none⟩=some (.slice a yn ca)/\w'.cell? ⟨w.heap.size,1,none⟩=some (.slice b yn cb)/\w'.cell? ⟨w.heap.size,2,none⟩=some (.slice c nc cc)/\w'.cell? ⟨w.heap.size+1,2,none⟩=some (.slice ya yn yc)/\Ext wr1 w'))
     go_region_held3 (fun w'=>w'.cell? ⟨w.heap.size,0,none⟩=some (.slice a yn ca)/\w'.cell? ⟨w.heap.size,1,none⟩=some (.slice b yn cb)/\w'.cell? ⟨w.heap.size,2,none⟩=some (.slice c nc cc)/\w'.cell? ⟨w.heap.size+1,2,none⟩=some (.slice ya yn yc)/\Ext wr1 w')
      (first
        | with_reducible exact HKEEP.out _ hk2
        | with_reducible exact HKEEP.out _ hka
        | with_reducible exact HKEEP.out _ ((hk2.setCell (by first|(simp;done)|(simp;omega)) _).setCell (by first|(simp;done)|(simp;omega)) _)
        | with_reducible exact HKEEP.out _ (hk2.trans (Ext.alloc _ _))
        | with_reducible exact HKEEP.out _ (hBB.put _ _).ext)
      (first
        | (go_at_call 255
           (with_reducible refine (lX (b:=b) (nb:=yn) (cb:=cb) (c:=c) (nc:=nc) (cc:=cc) (T.out.lp.a.ext (by first|with_reducible exact hk2|with_reducible exact hka|with_reducible exact hk2.trans (Ext.alloc _ _))) HR4.out hlt (by omega) (by omega)).mono ?_)
           rintro e w3 ⟨⟨v3,rfl,ho3⟩,hx_w3⟩;obtain ⟨a3,n3,c3,rfl,hn3⟩:=ho3.var
           first|(with_reducible have hBB:=ah.grow hBB hx_w3)|(with_reducible have hBB:=ah.firstD hx_w3)|(with_reducible have hBB:=ah.laterD hk2 hx_w3)|skip
           first|(have b0_:=hBB.c0;have b1_:=hBB.c1;have fb_:=hBB.free)|skip
           have hk2:Ext wr1 w3:=by first|with_reducible exact hk2.trans hx_w3|with_reducible exact hka.trans hx_w3|with_reducible exact (hk2.trans (Ext.alloc _ _)).trans hx_w3
           have hk2s:=hk2.size)
        | (go_at_call 179
           (with_reducible refine (fO (by first|with_reducible exact ho3.ints|with_reducible exact (ho3.ext (Ext.alloc _ _)).ints) (by have:=hn3.out;have:=HCL.out;have:=HLA.out;omega)).mono ?_)
           rw [HRC.out];rintro e w4 ⟨⟨v4,rfl,ho4⟩,hx_w4⟩;obtain ⟨a4,n4,c4,rfl,hn4⟩:=ho4.var
           first|(with_reducible have hBB:=ah.grow hBB hx_w4)|(with_reducible have hBB:=ah.firstD hx_w4)|(with_reducible have hBB:=ah.laterD hk2 hx_w4)|skip
           first|(have b0_:=hBB.c0;have b1_:=hBB.c1;have fb_:=hBB.free)|skip
           have hk2:Ext wr1 w4:=by first|with_reducible exact hk2.trans hx_w4|with_reducible exact hka.trans hx_w4|with_reducible exact (hk2.trans (Ext.alloc _ _)).trans hx_w4
           have hk2s:=hk2.size)
        | (go_at_call 254
           (with_reducible refine (eB (T.out.lr.y.ext (by first|with_reducible exact hk2|with_reducible exact hka|with_reducible exact hk2.trans (Ext.alloc _ _))) (by first|with_reducible exact ho4.rats|with_reducible exact (ho4.ext (Ext.alloc _ _)).rats)).mono ?_)
           rw [HDV.out,HDD.out];rintro e w5 ⟨rfl,hx_w5⟩
           first|(with_reducible have hBB:=ah.grow hBB hx_w5)|(with_reducible have hBB:=ah.firstD hx_w5)|(with_reducible have hBB:=ah.laterD hk2 hx_w5)|skip
           first|(have b0_:=hBB.c0;have b1_:=hBB.c1;have fb_:=hBB.free)|skip
           have hk2:Ext wr1 w5:=by first|with_reducible exact hk2.trans hx_w5|with_reducible exact hka.trans hx_w5|with_reducible exact (hk2.trans (Ext.alloc _ _)).trans hx_w5
           have hk2s:=hk2.size)
        | fail)
     all_goals (go_wp2_with fail;go_meet;first|exact ⟨_,rfl,rfl,ae (hBB.put _ _)⟩|exact ⟨_,rfl,rfl,ae (ah.new hk2 _ _)⟩|exact ⟨_,rfl,rfl,ae (ah.new' hk2 _ _ (by simp))⟩)
    obtain ⟨g,rfl,rfl,HB1⟩:=hcut;have TW:=ae (T.out.grow HB1.out.ext);clear p0 p1 p2 q0 q1 q2 q3 q4 q5;have g0:=HB1.out.c0;cases dv with
    | none =>
      have hdk:dok=false:=by have:=HDD.out;simp only [optR] at this;simpa using (congrArg Prod.snd this).symm
      subst hdk;have HF:=ae (show aH aK A B C ⟨2,rX,rY,rr,(v1,v2),rp⟩=false by rw [HE2.out,cM hlt (by rw [HNF.out];rfl)];rfl);go_wp2_with fail;go_ret;exact ⟨ag HF.out.symm,TW.out.all⟩
    | some dvv =>
      have hdk:dok=true:=by have:=HDD.out;simp only [optR] at this;simpa using (congrArg Prod.snd this).symm
      have hdv2:dvv=(d1,d2):=by have:=HDD.out;simp only [optR] at this;simpa using congrArg Prod.fst this
      subst hdk hdv2;by_cases hl0:d1 > 0
      ·have HF:=ae (show aH aK A B C ⟨2,rX,rY,rr,(v1,v2),rp⟩=false by rw [HE2.out,cM hlt (by rw [HNF.out];exact decide_eq_false (by omega))];rfl);go_wp2_with fail;go_ret;exact ⟨ag HF.out.symm,TW.out.all⟩
      ·have HT:=ae (show (List.range (k+1)).all (noF A rY)=true by rw [eZ,HA.out,HNF.out,Bool.true_and];exact decide_eq_true (by omega));go_wp2_with fail
       go_roundg (g1-1)
       case measure=>have:=HK.out;omega
       case rel=>exact ⟨k+1,ae (by have:=HK.out;omega),by go_num,HT,TW⟩
   ·have hkn:nc=k:=by have:=HK.out;omega
    subst hkn;have HE3:=ae (show aH aK A B C ⟨2,rX,rY,rr,(v1,v2),rp⟩=posO (dotL rY (aw B)) by rw [HE2.out,HA.out];rfl);obtain ⟨dy,hdy⟩:∃ d,d=dotL rY (aw B):=⟨_,rfl⟩;rw [<-hdy] at HE3;obtain ⟨y1,y2,yok,hyy2⟩:∃ x y ok,optR dy=((x,y),ok):=⟨_,_,_,rfl⟩;have HYY:=ae hyy2;have HDY:=ae hdy.symm;have HRB:=ae (show dC B=aw B from eD HBS.out);clear hdy hyy2;go_upto_region 28 with fail;obtain ⟨p0,p1,p2⟩:=T.out.p;obtain ⟨q0,q1,q2,q3,q4,q5⟩:=T.out.q;go_upto_region 28 with fail
    go_cut [18,19] (fun sx so wx=>∃ g:Nat,sx=.pointer (some ⟨g,0,none⟩)/\so=.bool yok/\Hid (ah wr1 wx g y1 y2))
    case first =>
     have hk2:Ext wr1 wr1.drew:=Ext.drew wr1;have hka:Ext wr1 (wr1.alloc (.cells #[.int .i64 0,.int .i64 0] 43)).drew:=(Ext.alloc _ _).trans (Ext.drew _);have HKEEP:=ae (fun (w':World) (h:Ext wr1 w')=>(⟨h.cellSome p1,h.cellSome q2,h⟩:w'.cell? ⟨w.heap.size,1,none⟩=some (.slice b yn cb)/\w'.cell? ⟨w.heap.size+1,2,none⟩=some (.slice ya yn yc)/\Ext wr1 w'))
     go_region_held3 (fun w'=>w'.cell? ⟨w.heap.size,1,none⟩=some (.slice b yn cb)/\w'.cell? ⟨w.heap.size+1,2,none⟩=some (.slice ya yn yc)/\Ext wr1 w')
      (first
        | with_reducible exact HKEEP.out _ hk2
        | with_reducible exact HKEEP.out _ hka
        | with_reducible exact HKEEP.out _ ((hk2.setCell (by first|(simp;done)|(simp;omega)) _).setCell (by first|(simp;done)|(simp;omega)) _)
        | with_reducible exact HKEEP.out _ (hk2.trans (Ext.alloc _ _))
        | with_reducible exact HKEEP.out _ (hBB.put _ _).ext)
      (first
        | (go_at_call 179
           (with_reducible refine (fO (T.out.lp.b.ext (by first|with_reducible exact hk2|with_reducible exact hka|with_reducible exact hk2.trans (Ext.alloc _ _))) (by omega)).mono ?_)
           rw [HRB.out];rintro e w4 ⟨⟨v4,rfl,ho4⟩,hx_w4⟩;obtain ⟨a4,n4,c4,rfl,hn4⟩:=ho4.var
           first|(with_reducible have hBB:=ah.grow hBB hx_w4)|(with_reducible have hBB:=ah.firstD hx_w4)|(with_reducible have hBB:=ah.laterD hk2 hx_w4)|skip
           first|(have b0_:=hBB.c0;have b1_:=hBB.c1;have fb_:=hBB.free)|skip
           have hk2:Ext wr1 w4:=by first|with_reducible exact hk2.trans hx_w4|with_reducible exact hka.trans hx_w4|with_reducible exact (hk2.trans (Ext.alloc _ _)).trans hx_w4
           have hk2s:=hk2.size)
        | (go_at_call 254
           (with_reducible refine (eB (T.out.lr.y.ext (by first|with_reducible exact hk2|with_reducible exact hka|with_reducible exact hk2.trans (Ext.alloc _ _))) (by first|with_reducible exact ho4.rats|with_reducible exact (ho4.ext (Ext.alloc _ _)).rats)).mono ?_)
           rw [HDY.out,HYY.out];rintro e w5 ⟨rfl,hx_w5⟩
           first|(with_reducible have hBB:=ah.grow hBB hx_w5)|(with_reducible have hBB:=ah.firstD hx_w5)|(with_reducible have hBB:=ah.laterD hk2 hx_w5)|skip
           first|(have b0_:=hBB.c0;have b1_:=hBB.c1;have fb_:=hBB.free)|skip
           have hk2:Ext wr1 w5:=by first|with_reducible exact hk2.trans hx_w5|with_reducible exact hka.trans hx_w5|with_reducible exact (hk2.trans (Ext.alloc _ _)).trans hx_w5
           have hk2s:=hk2.size)
        | fail)
     all_goals (go_wp2_with fail;go_meet;first|exact ⟨_,rfl,rfl,ae (hBB.put _ _)⟩|exact ⟨_,rfl,rfl,ae (ah.new hk2 _ _)⟩|exact ⟨_,rfl,rfl,ae (ah.new' hk2 _ _ (by simp))⟩)
    obtain ⟨g,rfl,rfl,HB1⟩:=hcut;have TW:=ae (T.out.grow HB1.out.ext);clear p0 p1 p2 q0 q1 q2 q3 q4 q5;have g0:=HB1.out.c0;cases dy with
    | none =>
      have hdk:yok=false:=by have:=HYY.out;simp only [optR] at this;simpa using (congrArg Prod.snd this).symm
      subst hdk;go_wp2_with fail;go_ret;exact ⟨ag (by rw [HE3.out];rfl),TW.out.all⟩
    | some yv =>
      have hdk:yok=true:=by have:=HYY.out;simp only [optR] at this;simpa using (congrArg Prod.snd this).symm
      have hdv2:yv=(y1,y2):=by have:=HYY.out;simp only [optR] at this;simpa using congrArg Prod.fst this
      subst hdk hdv2;by_cases hy0:y1 > 0
      ·go_wp2_with fail;go_ret;exact ⟨ag (by rw [HE3.out];exact (decide_eq_true hy0).symm),TW.out.all⟩
      ·go_wp2_with fail;go_ret;exact ⟨ag (by rw [HE3.out];exact (decide_eq_false (by omega)).symm),TW.out.all⟩
 ·have hyy:((yn:Int) != (nb:Int))=true:=by simp;omega
  have HF:=ae (show aH aK A B C ⟨2,rX,rY,rr,(v1,v2),rp⟩=false by rw [HE.out,HLY.out,HLB.out,decide_eq_false hyb];rfl);go_enter Tryz.func199,Tryz.ntmps199
  go_wp2_with fail;refine HV.out.mono ?_;rintro e w1 ⟨rfl,hx⟩;have T1:=ae (T0.out.grow hx);obtain ⟨p0,p1,p2⟩:=T1.out.p;obtain ⟨q0,q1,q2,q3,q4,q5⟩:=T1.out.q;clear hx;go_wp2_with fail;go_ret;exact ⟨ag HF.out.symm,T1.out.all⟩
end
end Go.Proofs.YthjjfkeacobikaaGreat
namespace Go.Proofs.YthjjfkeacobikaaGreat
set_option maxRecDepth 100000
open Go.RowKit
section
variable {w:World} {a:Option Addr} {na ca:Nat} {b:Option Addr} {nb cb:Nat} {c:Option Addr} {nc cc:Nat} {A:List (List Int)} {B:List Int} {C:List (Int × Int)}
 {xa:Option Addr} {xn xc:Nat} {ya:Option Addr} {yn yc:Nat} {ra:Option Addr} {rn rc:Nat} {r:LpR}
set_option maxHeartbeats 16000000 in
theorem oF (h:LpC w a na ca b nb cb c nc cc A B C) (h':LrC w xa xn xc ya yn yc ra rn rc r) (ok:okLP A B C=true) (hs:r.status=3) :
 Calls Tryz.prog 199 #[lpW a na ca b nb cb c nc cc,lrW r xa xn xc ya yn yc ra rn rc] w fun e w'=>e=.returned (.bool (aH aK A B C r))/\Ext w w':=by
 obtain ⟨r1,r2,r3,r4,r5,r6⟩:=cg h ok;subst r3;have T0:=ae (show Two w ((w.alloc (bm a nb ca b nb cb c nc cc)).alloc (bS r xa xn xc ya yn yc ra rn rc)) a nb ca b nb cb c nc cc xa xn xc ya yn yc ra rn rc r A B C from ⟨Ext.refl _,(h.ext (Ext.alloc _ _)).ext (Ext.alloc _ _),(h'.ext (Ext.alloc _ _)).ext (Ext.alloc _ _)⟩);have hy1:=h'.y.hcap;have hy2:=h'.y.hmax;have hc1:=h.c.hcap;have hc2:=h.c.hmax;have hb1:=h.b.hcap;have hb2:=h.b.hmax;have HLC:=ae h.c.hlen;have HLB:=ae h.b.hlen;have HLA:=ae h.a.hlen;have HLY:=ae h'.y.hlen;have HE:=ae (show aH aK A B C r=(dt A B C.length r.X&&rayB A B C r.ray) by unfold aH;rw [if_neg (by omega),if_neg (by omega),if_pos hs]);have HR4:=ae r4;have HR5:=ae r5;have HCS:=ae (fun j=>fp (A:=A) (fun i hi=>(r5 i (by have:=h.a.hlen;omega)).2) j);have HBS:=ae r6;obtain ⟨st,rX,rY,rr,rv,rp⟩:=r;obtain ⟨v1,v2⟩:=rv;simp only at hs HE HLY;subst hs;have HV:=ae (dJ T0.out.lp);rw [ok] at HV;clear h h' r4 r5 r6;have HFB:=ae (fun (W:World) (t:Two w W a nb ca b nb cb c nc cc xa xn xc ya yn yc ra rn rc ⟨3,rX,rY,rr,(v1,v2),rp⟩ A B C)=>ir t.lp t.lr.x);rw [ok] at HFB;simp only [Bool.true_and] at HFB;have HS1:((3:Int) == 1)=false:=by decide
 have HS2:((3:Int) == 2)=false:=by decide
 cases hf:dt A B C.length rX
 ·rw [hf] at HFB HE;clear hf;go_enter Tryz.func199,Tryz.ntmps199
  go_wp2_with fail;refine HV.out.mono ?_;rintro e w1 ⟨rfl,hx⟩;have T1:=ae (T0.out.grow hx);obtain ⟨p0,p1,p2⟩:=T1.out.p;obtain ⟨q0,q1,q2,q3,q4,q5⟩:=T1.out.q;clear hx;go_upto_region 31 with fail;have hk2:Ext w1 w1.drew:=Ext.drew w1;refine wp_region_held_drew (S:=(fun w'=>w'.cell? ⟨w.heap.size,0,none⟩=some (.slice a nb ca)/\w'.cell? ⟨w.heap.size,1,none⟩=some (.slice b nb cb)/\w'.cell? ⟨w.heap.size,2,none⟩=some (.slice c nc cc)/\w'.cell? ⟨w.heap.size+1,1,none⟩=some (.slice xa xn xc)/\w'.cell? ⟨w.heap.size+1,3,none⟩=some (.slice ra rn rc)/\Ext w1 w')) (by kernel_rfl) ?_ (fun hHeld=>?_)
  ·exact ⟨hk2.cellSome p0,hk2.cellSome p1,hk2.cellSome p2,hk2.cellSome q1,hk2.cellSome q3,hk2⟩
  refine tk 0 ?_;refine tk 1 ?_;refine tk 2 ?_;refine rd (i:=3) (h:=fun K hK=>?_);go_simp
  (go_at_call 253;refine (HFB.out _ (T1.out.grow hk2)).mono ?_;rintro e w3 ⟨rfl,hx3⟩;have hk2:=hk2.trans hx3)
  go_wp2_with fail;refine hK.out _ _ ?_ (fun hHeld=>?_)
  ·exact ⟨hk2.cellSome p0,hk2.cellSome p1,hk2.cellSome p2,hk2.cellSome q1,hk2.cellSome q3,hk2⟩
  clear hK K
  try simp only [Act.put,sA,sB,sC]
  refine tk 4 ?_;refine tk 5 ?_;refine sk 6 ?_;refine sk 7 ?_;refine sk 8 ?_;refine sk 9 ?_;refine sk 10 ?_;refine sk 11 ?_;refine sk 12 ?_;refine tk 13 ?_;refine tk 14 ?_;refine sk 15 ?_;refine sk 16 ?_;refine sk 17 ?_;refine sk 18 ?_;refine sk 19 ?_;refine sk 20 ?_;refine sk 21 ?_;refine sk 22 ?_;refine sk 23 ?_;refine tk 24 ?_;refine wpAnyH_done (by kernel_rfl) ?_ _;go_wp2_with fail;go_ret;exact ⟨ag (by rw [HE.out];rfl),(T1.out.grow hk2).all⟩
 ·rw [hf] at HFB HE;clear hf;have HE2:=ae (show aH aK A B C ⟨3,rX,rY,rr,(v1,v2),rp⟩=((decide (rr.length=nc)&&posV rr)&&(cU A rr (List.replicate nb 0)&&negO (dotL C rr))) by rw [HE.out,nY,HLC.out,HLB.out,Bool.true_and]);have HNN:=ae (fun (W:World) (t:Two w W a nb ca b nb cb c nc cc xa xn xc ya yn yc ra rn rc ⟨3,rX,rY,rr,(v1,v2),rp⟩ A B C)=>ib t.lr.ray nc);cases hn:(decide (rr.length=nc)&&posV rr)
  ·rw [hn] at HE2;simp only [hn] at HNN;clear hn;go_enter Tryz.func199,Tryz.ntmps199
   go_wp2_with fail;refine HV.out.mono ?_;rintro e w1 ⟨rfl,hx⟩;have T1:=ae (T0.out.grow hx);obtain ⟨p0,p1,p2⟩:=T1.out.p;obtain ⟨q0,q1,q2,q3,q4,q5⟩:=T1.out.q;clear hx;go_upto_region 31 with fail;have hk2:Ext w1 w1.drew:=Ext.drew w1;refine wp_region_held_drew (S:=(fun w'=>w'.cell? ⟨w.heap.size,0,none⟩=some (.slice a nb ca)/\w'.cell? ⟨w.heap.size,1,none⟩=some (.slice b nb cb)/\w'.cell? ⟨w.heap.size,2,none⟩=some (.slice c nc cc)/\w'.cell? ⟨w.heap.size+1,1,none⟩=some (.slice xa xn xc)/\w'.cell? ⟨w.heap.size+1,3,none⟩=some (.slice ra rn rc)/\Ext w1 w')) (by kernel_rfl) ?_ (fun hHeld=>?_)
   ·exact ⟨hk2.cellSome p0,hk2.cellSome p1,hk2.cellSome p2,hk2.cellSome q1,hk2.cellSome q3,hk2⟩
   refine tk 0 ?_;refine tk 1 ?_;refine tk 2 ?_;refine rd (i:=3) (h:=fun K hK=>?_);go_simp
   (go_at_call 253;refine (HFB.out _ (T1.out.grow hk2)).mono ?_;rintro e w3 ⟨rfl,hx3⟩;have hk2:=hk2.trans hx3)
   go_wp2_with fail;refine hK.out _ _ ?_ (fun hHeld=>?_)
   ·exact ⟨hk2.cellSome p0,hk2.cellSome p1,hk2.cellSome p2,hk2.cellSome q1,hk2.cellSome q3,hk2⟩
   clear hK K
   try simp only [Act.put,sA,sB,sC]
   refine tk 4 ?_;refine tk 5 ?_;refine tk 6 ?_;refine tk 7 ?_;refine tk 8 ?_;refine tk 9 ?_;refine tk 10 ?_;refine rd (i:=11) (h:=fun K hK=>?_);go_simp
   (go_at_call 256;refine (HNN.out _ (T1.out.grow hk2)).mono ?_;rintro e w4 ⟨rfl,hx4⟩;have hk2:=hk2.trans hx4)
   go_wp2_with fail;refine hK.out _ _ ?_ (fun hHeld=>?_)
   ·exact ⟨hk2.cellSome p0,hk2.cellSome p1,hk2.cellSome p2,hk2.cellSome q1,hk2.cellSome q3,hk2⟩
   clear hK K
   try simp only [Act.put,sA,sB,sC]
   refine tk 12 ?_;refine tk 13 ?_;refine tk 14 ?_;refine sk 15 ?_;refine sk 16 ?_;refine sk 17 ?_;refine sk 18 ?_;refine sk 19 ?_;refine sk 20 ?_;refine sk 21 ?_;refine sk 22 ?_;refine sk 23 ?_;refine tk 24 ?_;refine wpAnyH_done (by kernel_rfl) ?_ _;go_wp2_with fail;go_ret;exact ⟨ag (by rw [HE2.out];rfl),(T1.out.grow hk2).all⟩
  ·rw [hn] at HE2;simp only [hn] at HNN;clear hn;have hmk:=gN nb (by omega);have HGV:=ae (fun (W:World) (t:Two w W a nb ca b nb cb c nc cc xa xn xc ya yn yc ra rn rc ⟨3,rX,rY,rr,(v1,v2),rp⟩ A B C)=>nL (b:=b) (nb:=nb) (cb:=cb) (c:=c) (nc:=nc) (cc:=cc) (t.grow (Ext.alloc W (.cells (aW (List.replicate nb 0)) 3))).lp.a (t.grow (Ext.alloc W (.cells (aW (List.replicate nb 0)) 3))).lr.ray (Row.ints (show Row (W.alloc (.cells (aW (List.replicate nb 0)) 3)) W.heap.size 3 (List.replicate nb 0) from heap_alloc_new _ _) (by simp) (Nat.le_refl nb) (by omega)) (Nat.le_refl _) HR5.out);obtain ⟨gv,hgv⟩:∃ g,g=cU A rr (List.replicate nb 0):=⟨_,rfl⟩;rw [<-hgv] at HE2;simp only [<-hgv] at HGV;clear hgv;go_enter Tryz.func199,Tryz.ntmps199
   go_wp2_with fail;refine HV.out.mono ?_;rintro e w1 ⟨rfl,hx⟩;have T1:=ae (T0.out.grow hx);obtain ⟨p0,p1,p2⟩:=T1.out.p;obtain ⟨q0,q1,q2,q3,q4,q5⟩:=T1.out.q;clear hx;go_upto_region 31 with fail;have hk2:Ext w1 w1.drew:=Ext.drew w1;refine wp_region_held_drew (S:=(fun w'=>w'.cell? ⟨w.heap.size,0,none⟩=some (.slice a nb ca)/\w'.cell? ⟨w.heap.size,1,none⟩=some (.slice b nb cb)/\w'.cell? ⟨w.heap.size,2,none⟩=some (.slice c nc cc)/\w'.cell? ⟨w.heap.size+1,1,none⟩=some (.slice xa xn xc)/\w'.cell? ⟨w.heap.size+1,3,none⟩=some (.slice ra rn rc)/\Ext w1 w')) (by kernel_rfl) ?_ (fun hHeld=>?_)
   ·exact ⟨hk2.cellSome p0,hk2.cellSome p1,hk2.cellSome p2,hk2.cellSome q1,hk2.cellSome q3,hk2⟩
   refine tk 0 ?_;refine tk 1 ?_;refine tk 2 ?_;refine rd (i:=3) (h:=fun K hK=>?_);go_simp
   (go_at_call 253;refine (HFB.out _ (T1.out.grow hk2)).mono ?_;rintro e w3 ⟨rfl,hx3⟩;have hk2:=hk2.trans hx3)
   go_wp2_with fail;refine hK.out _ _ ?_ (fun hHeld=>?_)
   ·exact ⟨hk2.cellSome p0,hk2.cellSome p1,hk2.cellSome p2,hk2.cellSome q1,hk2.cellSome q3,hk2⟩
   clear hK K
   try simp only [Act.put,sA,sB,sC]
   refine tk 4 ?_;refine tk 5 ?_;refine tk 6 ?_;refine tk 7 ?_;refine tk 8 ?_;refine tk 9 ?_;refine tk 10 ?_;refine rd (i:=11) (h:=fun K hK=>?_);go_simp
   (go_at_call 256;refine (HNN.out _ (T1.out.grow hk2)).mono ?_;rintro e w4 ⟨rfl,hx4⟩;have hk2:=hk2.trans hx4)
   go_wp2_with fail;refine hK.out _ _ ?_ (fun hHeld=>?_)
   ·exact ⟨hk2.cellSome p0,hk2.cellSome p1,hk2.cellSome p2,hk2.cellSome q1,hk2.cellSome q3,hk2⟩
   clear hK K
   try simp only [Act.put,sA,sB,sC]
   refine tk 12 ?_;refine tk 13 ?_;refine tk 14 ?_;refine tk 15 ?_;refine tk 16 ?_;refine tk 17 ?_;refine tk 18 ?_;refine tk 19 ?_;refine tk 20 ?_;have TG:=ae (T1.out.grow hk2);have hk9:=hk2;have hk2:=hk9.trans (Ext.alloc w4 (.cells (aW (List.replicate nb 0)) 3));refine rd (i:=21) (h:=fun K hK=>?_);go_simp;refine hK.out _ _ ?_ (fun hHeld=>?_)
   ·exact ⟨hk2.cellSome p0,hk2.cellSome p1,hk2.cellSome p2,hk2.cellSome q1,hk2.cellSome q3,hk2⟩
   clear hK K
   try simp only [Act.put,sA,sB,sC]
   refine rd (i:=22) (h:=fun K hK=>?_);go_simp
   (go_at_call 257;refine (HGV.out _ TG.out).mono ?_;rintro e w5 ⟨rfl,hx5⟩;have hk2:=hk2.trans hx5)
   go_wp2_with fail;refine hK.out _ _ ?_ (fun hHeld=>?_)
   ·exact ⟨hk2.cellSome p0,hk2.cellSome p1,hk2.cellSome p2,hk2.cellSome q1,hk2.cellSome q3,hk2⟩
   clear hK K
   try simp only [Act.put,sA,sB,sC]
   refine tk 23 ?_;refine tk 24 ?_;refine wpAnyH_done (by kernel_rfl) ?_ _;have TW:=ae (T1.out.grow hk2);clear hk2 hk9 p0 p1 p2 q0 q1 q2 q3 q4 q5;obtain ⟨p0,p1,p2⟩:=TW.out.p;obtain ⟨q0,q1,q2,q3,q4,q5⟩:=TW.out.q;cases gv
   ·go_wp2_with fail;go_ret;exact ⟨ag (by rw [HE2.out];rfl),TW.out.all⟩
   ·obtain ⟨dx,hdx⟩:∃ d,d=dotL C rr:=⟨_,rfl⟩;have HDX:=ae (eB TW.out.lp.c TW.out.lr.ray);have HE3:=ae (show aH aK A B C ⟨3,rX,rY,rr,(v1,v2),rp⟩=negO dx by rw [HE2.out,hdx];rfl);rw [<-hdx] at HDX;clear hdx;cases dx with
    | none =>
      rw [show optR none=((0,0),false) from rfl] at HDX;go_wp2_with fail;refine HDX.out.mono ?_;rintro e w6 ⟨rfl,hx⟩;have TX:=ae ((TW.out.grow hx).grow (Ext.alloc _ (.cells #[.int .i64 0,.int .i64 0] 43)));clear hx;go_wp2_with fail;go_ret;exact ⟨ag (by rw [HE3.out];rfl),TX.out.all⟩
    | some v =>
      obtain ⟨x1,x2⟩:=v;rw [show optR (some (x1,x2))=((x1,x2),true) from rfl] at HDX;go_wp2_with fail;refine HDX.out.mono ?_;rintro e w6 ⟨rfl,hx⟩;have TX:=ae ((TW.out.grow hx).grow (Ext.alloc _ (.cells #[.int .i64 x1,.int .i64 x2] 43)));clear hx;by_cases hx0:x1<0
      ·go_wp2_with fail;go_ret;exact ⟨ag (by rw [HE3.out];exact (decide_eq_true hx0).symm),TX.out.all⟩
      ·go_wp2_with fail;go_ret;exact ⟨ag (by rw [HE3.out];rfl),TX.out.all⟩
set_option maxHeartbeats 4000000 in
theorem pw (h:LpC w a na ca b nb cb c nc cc A B C) (h':LrC w xa xn xc ya yn yc ra rn rc r) (ok:okLP A B C=true) :
 Calls Tryz.prog 199 #[lpW a na ca b nb cb c nc cc,lrW r xa xn xc ya yn yc ra rn rc] w fun e w'=>e=.returned (.bool (aH aK A B C r))/\Ext w w':=by
 by_cases h1:r.status=1
 ·exact oD h h' ok h1
 by_cases h2:r.status=2
 ·exact oE h h' ok h2
 by_cases h3:r.status=3
 ·exact oF h h' ok h3
 have HE:=ae (show aH aK A B C r=false by unfold aH;rw [if_neg h1,if_neg h2,if_neg h3]);have T0:=ae (show Two w ((w.alloc (bm a na ca b nb cb c nc cc)).alloc (bS r xa xn xc ya yn yc ra rn rc)) a na ca b nb cb c nc cc xa xn xc ya yn yc ra rn rc r A B C from ⟨Ext.refl _,(h.ext (Ext.alloc _ _)).ext (Ext.alloc _ _),(h'.ext (Ext.alloc _ _)).ext (Ext.alloc _ _)⟩);have HV:=ae (dJ T0.out.lp);rw [ok] at HV;obtain ⟨st,rX,rY,rr,rv,rp⟩:=r;obtain ⟨v1,v2⟩:=rv;simp only at h1 h2 h3;have e1:(st == 1)=false:=by simp;omega
 have e2:(st == 2)=false:=by simp;omega
 have e3:(st == 3)=false:=by simp;omega
 clear h h' h1 h2 h3;go_enter Tryz.func199,Tryz.ntmps199
 go_wp2_with fail;refine HV.out.mono ?_;rintro e w1 ⟨rfl,hx⟩;have T1:=ae (T0.out.grow hx);obtain ⟨p0,p1,p2⟩:=T1.out.p;obtain ⟨q0,q1,q2,q3,q4,q5⟩:=T1.out.q;clear hx;go_wp2_with fail;go_ret;exact ⟨ag HE.out.symm,T1.out.all⟩
end
end Go.Proofs.YthjjfkeacobikaaGreat
namespace Go.Proofs.YthjjfkeacobikaaGreat
set_option maxRecDepth 100000
open Go.RowKit
theorem em {r:List Int} (h:∀ x ∈ r,-5000<=x/\x<=5000):fitL r=true:=by
 unfold fitL;rw [List.all_eq_true];intro x hx;have:=h x hx;unfold inB;simp;omega
set_option maxHeartbeats 8000000 in
theorem ls {w:World} {a:Option Addr} {na ca:Nat} {b:Option Addr} {nb cb:Nat} {c:Option Addr} {nc cc:Nat} {A:List (List Int)} (h:dD w a na ca A) {xa:Option Addr} {xn xcap:Nat} {X:List (Int × Int)} (hX:Rats w xa xn xcap X)
 {da:Option Addr} {dn dcap:Nat} {D:List Int} (hD:Ints w da dn dcap D) (hdn:na<=dn) (hrow:∀ i,i<na->(A[i]?.getD []).length<=70/\∀ x ∈ A[i]?.getD [],-5000<=x/\x<=5000) :
 Calls Tryz.prog 236 #[lpW a na ca b nb cb c nc cc,.slice xa xn xcap,.slice da dn dcap] w fun e w'=>e=.returned (.bool (cU A X D))/\Ext w w':=by
 have hx0:=Ext.alloc w (bm a na ca b nb cb c nc cc);have HX0:=ae hx0;have HI:=ae (h.ext hx0);have HXX:=ae (hX.ext hx0);have HDD:=ae (hD.ext hx0);have HRW:=ae hrow;have ha1:=h.hcap;have ha2:=h.hmax;have hd1:=hD.hcap;have hd2:=hD.hmax;have HLA:=ae h.hlen;have HTB:=ae (show (w.alloc (bm a na ca b nb cb c nc cc)).heap[w.heap.size]?=some (.cells #[.slice a na ca,.slice b nb cb,.slice c nc cc] 109 (0,0)) from aj _ _ _ rfl);have HE:=ae (show cU A X D=(List.range na).all (eK A X D) by rw [kS,HLA.out]);clear h hX hD hx0 hrow;go_enter Tryz.func236,Tryz.ntmps236
 go_wp2_with fail
 go_loopg [7] na (fun gk ii wr=>∃ k:Nat,Hid (gk+k=na)/\ii=.int .i64 (k:Int)/\Hid ((List.range k).all (eK A X D)=true)/\Hid (Ext (w.alloc (bm a na ca b nb cb c nc cc)) wr))
 case atStart=>exact ⟨0,ae (by omega),rfl,ae rfl,ae (Ext.refl _)⟩
 case round =>
  obtain ⟨g1,h_g1⟩:∃ x,x=gk:=⟨_,rfl⟩;subst h_g1;obtain ⟨wr1,h_wr1⟩:∃ x,x=wr:=⟨_,rfl⟩;subst h_wr1;obtain ⟨k,HK,rfl,HA,HX⟩:=hrel;have hsz:=HX.out.size;rw [World.size_alloc] at hsz;by_cases hlt:k<na
  ·obtain ⟨gb,goff,ra,rn,rc,hga,hgc,hrow⟩:=(HI.out.ext HX.out).at hlt;subst hga;have hrn:rn<=70:=by rw [<-hrow.hlen];exact (HRW.out k hlt).1
   have p0:=al (HX.out.blk HTB.out);have X2:=HX;have HD:=ae (iI hrow (em (HRW.out k hlt).2) (by omega) (HXX.out.ext X2.out));clear hrow;obtain ⟨dv,hdv⟩:∃ d,d=dotL (aw (A[k]?.getD [])) X:=⟨_,rfl⟩;have HG:=ae (show eK A X D k=decide (dv=some (D[k]?.getD 0,1)) by rw [hdv];rfl);rw [<-hdv] at HD;clear hdv;obtain ⟨db,doff,hda,hdc⟩:=(HDD.out.ext X2.out).at (show k<dn by omega);subst hda;obtain ⟨d,hd⟩:∃ d,d=D[k]?.getD 0:=⟨_,rfl⟩;rw [<-hd] at HG hdc;clear hd;cases dv with
   | none =>
     rw [show optR none=((0,0),false) from rfl] at HD;have HF:=ae (show cU A X D=false by rw [HE.out];exact cM hlt (by rw [HG.out];rfl));go_wp2_with fail;refine HD.out.mono ?_;rintro e w3 ⟨rfl,hx3⟩;have X3:=ae (X2.out.trans hx3);clear hx3 hdc;obtain ⟨E,hE⟩:∃ E,E=w3.alloc (.cells #[.int .i64 0,.int .i64 0] 43):=⟨_,rfl⟩;have XE:=ae (show Ext w3 E by rw [hE];exact Ext.alloc _ _);go_upto_region 5 with fail;rw [<-hE];clear hE;have hk2:Ext E E.drew:=Ext.drew E;refine wp_region_held_drew (S:=(fun w'=>Ext E w')) (by kernel_rfl) ?_ (fun hHeld=>?_)
     ·exact hk2
     refine tk 0 ?_;refine tk 1 ?_;refine tk 2 ?_;refine sk 3 ?_;refine sk 4 ?_;refine sk 5 ?_;refine sk 6 ?_;refine sk 7 ?_;refine sk 8 ?_;refine sk 9 ?_;refine tk 10 ?_;refine wpAnyH_done (by kernel_rfl) ?_ _;go_wp2_with fail;go_ret;exact ⟨ag HF.out.symm,((HX0.out.trans X3.out).trans XE.out).trans hk2⟩
   | some r =>
     obtain ⟨r1,r2⟩:=r;rw [show optR (some (r1,r2))=((r1,r2),true) from rfl] at HD;go_wp2_with fail;refine HD.out.mono ?_;rintro e w3 ⟨rfl,hx3⟩;replace hdc:=hx3.cellSome hdc;have X3:=ae (X2.out.trans hx3);clear hx3;obtain ⟨E,hE⟩:∃ E,E=w3.alloc (.cells #[.int .i64 r1,.int .i64 r2] 43):=⟨_,rfl⟩;have hxE:Ext w3 E:=by rw [hE];exact Ext.alloc _ _
     have XE:=ae (X3.out.trans hxE);have e0:=hxE.cellSome hdc;have b0:E.cell? ⟨w3.heap.size,0,none⟩=some (.int .i64 r1):=by rw [hE];simp
     have b1:E.cell? ⟨w3.heap.size,1,none⟩=some (.int .i64 r2):=by rw [hE];simp
     go_upto_region 5 with fail;rw [<-hE];clear hE hdc hxE;have hkd:(k:Int)<(dn:Int):=by omega
     have hk0:(0:Int)<=(k:Int):=by omega
     have hk2:Ext E E.drew:=Ext.drew E;have HKEEP:=ae (fun (w':World) (h:Ext E w')=>(⟨h.cellSome e0,h.cellSome b0,h.cellSome b1,h⟩:w'.cell? ⟨db,doff+k,none⟩=some (.int .i64 d)/\w'.cell? ⟨w3.heap.size,0,none⟩=some (.int .i64 r1)/\w'.cell? ⟨w3.heap.size,1,none⟩=some (.int .i64 r2)/\Ext E w'));have HG2:=ae (show eK A X D k=((r1 == d)&&(r2 == 1)) by rw [HG.out,Bool.eq_iff_iff];simp);cases hx1:(r1 == d)
     all_goals
      cases hy1:(r2 == 1)
     all_goals
      have HG3:=ae HG2.out;rw [hx1,hy1] at HG3
      go_region_held3 (fun w'=>w'.cell? ⟨db,doff+k,none⟩=some (.int .i64 d)/\w'.cell? ⟨w3.heap.size,0,none⟩=some (.int .i64 r1)/\w'.cell? ⟨w3.heap.size,1,none⟩=some (.int .i64 r2)/\Ext E w')
       (first
         | with_reducible exact HKEEP.out _ hk2)
       (first
         | (go_at_call 86
            (with_reducible refine (ce _ _).mono ?_)
            rintro e w5 ⟨rfl,hx5⟩
            have hk2:Ext E w5:=hk2.trans hx5)
         | fail)
      have X5:=ae (XE.out.trans hk2);clear hk2
     all_goals try (
      have HF:=ae (show cU A X D=false by rw [HE.out];exact cM hlt (by rw [HG3.out];rfl));go_wp2_with fail;go_ret
      exact ⟨ag HF.out.symm,HX0.out.trans X5.out⟩)
     have HT:=ae (show (List.range (k+1)).all (eK A X D)=true by rw [eZ,HA.out,HG3.out];rfl);go_wp2_with fail
     go_roundg (g1-1)
     case measure=>have:=HK.out;omega
     case rel=>exact ⟨k+1,ae (by have:=HK.out;omega),by go_num,HT,X5⟩
  ·have hkn:na=k:=by have:=HK.out;omega
   subst hkn;have p0:=al (HX.out.blk HTB.out);go_wp2_with fail;go_ret;exact ⟨ag (by rw [HE.out,HA.out]),HX0.out.trans HX.out⟩
end Go.Proofs.YthjjfkeacobikaaGreat
