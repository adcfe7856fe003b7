import Derived.Test.YthjjfkeacobikaaGreatLeAllG21
import Derived.Test.YthjjfkeacobikaaGreatLeAllG20
import Derived.Outline
set_option linter.unusedVariables false
set_option linter.unusedSimpArgs false
namespace Go.Proofs.YthjjfkeacobikaaGreat
set_option maxRecDepth 100000
open Go.RowKit
structure LrC (w:World) (xa:Option Addr) (xn xc:Nat) (ya:Option Addr) (yn yc:Nat) (ra:Option Addr) (rn rc:Nat) (r:LpR):Prop where
 x:Rats w xa xn xc r.X
 y:Rats w ya yn yc r.Y
 ray:Rats w ra rn rc r.ray
theorem LrC.ext {w w':World} {xa:Option Addr} {xn xc:Nat} {ya:Option Addr} {yn yc:Nat} {ra:Option Addr} {rn rc:Nat} {r:LpR} (h:LrC w xa xn xc ya yn yc ra rn rc r) (hx:Ext w w'):LrC w' xa xn xc ya yn yc ra rn rc r:=⟨h.x.ext hx,h.y.ext hx,h.ray.ext hx⟩
abbrev lrW (r:LpR) (xa:Option Addr) (xn xc:Nat) (ya:Option Addr) (yn yc:Nat) (ra:Option Addr) (rn rc:Nat):Value :=
 .agg #[.int .i64 r.status,.slice xa xn xc,.slice ya yn yc,.slice ra rn rc,.int .i64 r.value.1,.int .i64 r.value.2,.int .i64 r.pivots]
abbrev bI (r:LpR) (xa:Option Addr) (xn xc:Nat) (ya:Option Addr) (yn yc:Nat) (ra:Option Addr) (rn rc:Nat):Obj :=
 .cells #[.int .i64 r.status,.slice xa xn xc,.slice ya yn yc,.slice ra rn rc,.int .i64 r.value.1,.int .i64 r.value.2,.int .i64 r.pivots] 113
theorem gG {A:List (List Int)} (h:∀ i,i<A.length->∀ x ∈ A[i]?.getD [],-5000<=x/\x<=5000) (j:Nat):∀ x ∈ colL A j,-5000<=x/\x<=5000:=by
 intro x hx;obtain ⟨r,hr,rfl⟩:=List.mem_map.1 hx;obtain ⟨i,hi,rfl⟩:=List.mem_iff_getElem.1 hr;by_cases hj:j<A[i].length
 ·rw [List.getElem?_eq_getElem hj];exact h i hi _ (by rw [List.getElem?_eq_getElem hi];exact List.getElem_mem _)
 ·rw [List.getElem?_eq_none (by omega)];simp
theorem ko (A:List (List Int)) (j:Nat):(colL A j).length=A.length:=by simp [colL]
theorem pF {A:List (List Int)} {Y C:List (Int × Int)} {j:Nat} (h:dotL Y (au (colL A j))=none):aK A Y C j=false:=by unfold aK;rw [h]
theorem pG {A:List (List Int)} {Y C:List (Int × Int)} {j:Nat} {v c:Int × Int} (h:dotL Y (au (colL A j))=some v) (hc:C[j]?.getD (0,0)=c):aK A Y C j=((subR c v).2&&decide (0<=(subR c v).1.1)):=by unfold aK;rw [h,hc]
def iP (x y:Option (Int × Int)) (v:Int × Int):Bool:=match x,y with|some x,some y=>decide (x=y)&&decide (x=v)|_,_=>false
theorem oO (B:List Int) (C:List (Int × Int)) (r:LpR):gL B C r=iP (dotL C r.X) (dotL r.Y (au B)) r.value:=rfl
theorem iQ (x:Option (Int × Int)) (v:Int × Int):iP none x v=false/\iP x none v=false:=by cases x <;> exact ⟨rfl,rfl⟩
theorem lB (x1 x2 y1 y2 v1 v2:Int):iP (some (x1,x2)) (some (y1,y2)) (v1,v2)=(((x1 == y1)&&(x2 == y2))&&((x1 == v1)&&(x2 == v2))):=by
 simp only [iP];rw [Bool.eq_iff_iff];simp
section
variable {w:World} {a:Option Addr} {na ca:Nat} {b:Option Addr} {nb cb:Nat} {c:Option Addr} {nc cc:Nat} {A:List (List Int)} {B:List Int} {C:List (Int × Int)}
 {xa:Option Addr} {xn xc:Nat} {ya:Option Addr} {yn yc:Nat} {ra:Option Addr} {rn rc:Nat} {r:LpR}
structure Two (w W:World) (a:Option Addr) (na ca:Nat) (b:Option Addr) (nb cb:Nat) (c:Option Addr) (nc cc:Nat) (xa:Option Addr) (xn xc:Nat) (ya:Option Addr) (yn yc:Nat) (ra:Option Addr) (rn rc:Nat) (r:LpR) (A:List (List Int)) (B:List Int) (C:List (Int × Int)):Prop where
 ext:Ext ((w.alloc (be a na ca b nb cb c nc cc)).alloc (bI r xa xn xc ya yn yc ra rn rc)) W
 lp:LpC W a na ca b nb cb c nc cc A B C
 lr:LrC W xa xn xc ya yn yc ra rn rc r
theorem Two.grow {W W':World} (h:Two w W a na ca b nb cb c nc cc xa xn xc ya yn yc ra rn rc r A B C) (hx:Ext W W'):Two w W' a na ca b nb cb c nc cc xa xn xc ya yn yc ra rn rc r A B C:=⟨h.ext.trans hx,h.lp.ext hx,h.lr.ext hx⟩
theorem Two.all {W:World} (h:Two w W a na ca b nb cb c nc cc xa xn xc ya yn yc ra rn rc r A B C):Ext w W:=((Ext.alloc _ _).trans (Ext.alloc _ _)).trans h.ext
theorem Two.p {W:World} (h:Two w W a na ca b nb cb c nc cc xa xn xc ya yn yc ra rn rc r A B C):W.cell? ⟨w.heap.size,0,none⟩=some (.slice a na ca)/\W.cell? ⟨w.heap.size,1,none⟩=some (.slice b nb cb)/\W.cell? ⟨w.heap.size,2,none⟩=some (.slice c nc cc) :=
 ⟨h.ext.cellSome (by simp),h.ext.cellSome (by simp),h.ext.cellSome (by simp)⟩
theorem Two.q {W:World} (h:Two w W a na ca b nb cb c nc cc xa xn xc ya yn yc ra rn rc r A B C):W.cell? ⟨w.heap.size+1,0,none⟩=some (.int .i64 r.status)/\W.cell? ⟨w.heap.size+1,1,none⟩=some (.slice xa xn xc)/\W.cell? ⟨w.heap.size+1,2,none⟩=some (.slice ya yn yc)/\W.cell? ⟨w.heap.size+1,3,none⟩=some (.slice ra rn rc)/\W.cell? ⟨w.heap.size+1,4,none⟩=some (.int .i64 r.value.1)/\W.cell? ⟨w.heap.size+1,5,none⟩=some (.int .i64 r.value.2) :=
 ⟨h.ext.cellSome (by simp),h.ext.cellSome (by simp),h.ext.cellSome (by simp),h.ext.cellSome (by simp),h.ext.cellSome (by simp),h.ext.cellSome (by simp)⟩
set_option maxHeartbeats 16000000 in
theorem qX (h:LpC w a na ca b nb cb c nc cc A B C) (h':LrC w xa xn xc ya yn yc ra rn rc r) (ok:okLP A B C=true) (hs:r.status=1) :
 Calls Tryz.prog 199 #[lpW a na ca b nb cb c nc cc,lrW r xa xn xc ya yn yc ra rn rc] w fun e w'=>e=.returned (.bool (aD aK A B C r))/\Ext w w':=by
 obtain ⟨r1,r2,r3,r4,r5,r6⟩:=cj h ok;subst r3;have T0:=ae (show Two w ((w.alloc (be a nb ca b nb cb c nc cc)).alloc (bI r xa xn xc ya yn yc ra rn rc)) a nb ca b nb cb c nc cc xa xn xc ya yn yc ra rn rc r A B C from ⟨Ext.refl _,(h.ext (Ext.alloc _ _)).ext (Ext.alloc _ _),(h'.ext (Ext.alloc _ _)).ext (Ext.alloc _ _)⟩);have hy1:=h'.y.hcap;have hy2:=h'.y.hmax;have hc1:=h.c.hcap;have hc2:=h.c.hmax;have hb1:=h.b.hcap;have hb2:=h.b.hmax;have HLC:=ae h.c.hlen;have HLB:=ae h.b.hlen;have HLA:=ae h.a.hlen;have HLY:=ae h'.y.hlen;have HE:=ae (show aD aK A B C r=(dj A B C.length r.X&&(decide (r.Y.length=B.length)&&((List.range C.length).all (aK A r.Y C)&&gL B C r))) by unfold aD;rw [if_pos hs]);have HR4:=ae r4;have HCS:=ae (fun j=>gG (A:=A) (fun i hi=>(r5 i (by have:=h.a.hlen;omega)).2) j);have HBS:=ae r6;obtain ⟨st,rX,rY,rr,rv,rp⟩:=r;obtain ⟨v1,v2⟩:=rv;simp only at hs HE HLY;subst hs;have HV:=ae (ee T0.out.lp);rw [ok] at HV;clear h h' r4 r5 r6;have HFB:=ae (fun (W:World) (t:Two w W a nb ca b nb cb c nc cc xa xn xc ya yn yc ra rn rc ⟨1,rX,rY,rr,(v1,v2),rp⟩ A B C)=>js t.lp t.lr.x);rw [ok] at HFB;simp only [Bool.true_and] at HFB;cases hf:dj A B C.length rX
 ·rw [hf] at HFB HE;clear hf;go_enter Tryz.func199,Tryz.ntmps199
  go_wp2_with fail;refine HV.out.mono ?_;rintro e w1 ⟨rfl,hx⟩;have T1:=ae (T0.out.grow hx);obtain ⟨p0,p1,p2⟩:=T1.out.p;obtain ⟨q0,q1,q2,q3,q4,q5⟩:=T1.out.q;clear hx;go_wp2_with fail;refine (HFB.out _ T1.out).mono ?_;rintro e w2 ⟨rfl,hx⟩;have T2:=ae (T1.out.grow hx);clear hx;go_wp2_with fail;go_ret;exact ⟨ag (by rw [HE.out];rfl),T2.out.all⟩
 ·rw [hf] at HFB HE;clear hf;by_cases hyb:yn=nb
  ·subst hyb;have hyy:((yn:Int) != (yn:Int))=false:=by simp
   have HE2:=ae (show aD aK A B C ⟨1,rX,rY,rr,(v1,v2),rp⟩=((List.range nc).all (aK A rY C)&&gL B C ⟨1,rX,rY,rr,(v1,v2),rp⟩) by rw [HE.out,HLY.out,HLB.out,HLC.out,decide_eq_true rfl];rfl);go_enter Tryz.func199,Tryz.ntmps199
   go_wp2_with fail;refine HV.out.mono ?_;rintro e w1 ⟨rfl,hx⟩;have T1:=ae (T0.out.grow hx);obtain ⟨p0,p1,p2⟩:=T1.out.p;obtain ⟨q0,q1,q2,q3,q4,q5⟩:=T1.out.q;clear hx;go_wp2_with fail;refine (HFB.out _ T1.out).mono ?_;rintro e w2 ⟨rfl,hx⟩;have T2:=ae (T1.out.grow hx);clear hx p0 p1 p2 q0 q1 q2 q3 q4 q5;obtain ⟨p0,p1,p2⟩:=T2.out.p;obtain ⟨q0,q1,q2,q3,q4,q5⟩:=T2.out.q;go_wp2_with fail
   go_loopg [46] nc (fun gk ii wr=>∃ k:Nat,Hid (gk+k=nc)/\ii=.int .i64 (k:Int)/\Hid ((List.range k).all (aK A rY C)=true)/\Hid (Two w wr a yn ca b yn cb c nc cc xa xn xc ya yn yc ra rn rc ⟨1,rX,rY,rr,(v1,v2),rp⟩ A B C))
   case atStart=>exact ⟨0,ae (by omega),rfl,ae rfl,T2⟩
   case round =>
    obtain ⟨g1,h_g1⟩:∃ x,x=gk:=⟨_,rfl⟩;subst h_g1;obtain ⟨wr1,h_wr1⟩:∃ x,x=wr:=⟨_,rfl⟩;subst h_wr1;obtain ⟨k,HK,rfl,HA,T⟩:=hrel;clear p0 p1 p2 q0 q1 q2 q3 q4 q5;by_cases hlt:k<nc
    ·obtain ⟨zb,zoff,cx,cy,hza,hxy,hz0,hz1⟩:=T.out.lp.c.at hlt;subst hza;have HXY:=ae hxy;clear hxy;obtain ⟨E,hE⟩:∃ E,E=wr1.alloc (.cells #[.int .i64 cx,.int .i64 cy] 43):=⟨_,rfl⟩;have hxE:Ext wr1 E:=by rw [hE];exact Ext.alloc _ _
     have TE:=ae (T.out.grow hxE);have HB0:=ae (show ah wr1 E wr1.heap.size cx cy by rw [hE];exact ah.new (Ext.refl _) _ _);go_upto_region 10 with fail;rw [<-hE];clear hE hxE hz0 hz1;obtain ⟨p0,p1,p2⟩:=TE.out.p;obtain ⟨q0,q1,q2,q3,q4,q5⟩:=TE.out.q;have HCL:=ae (ko A k);obtain ⟨dv,hdv⟩:∃ d,d=dotL rY (au (colL A k)):=⟨_,rfl⟩;have HDV:=ae hdv.symm;obtain ⟨d1,d2,dok,hdd⟩:∃ x y ok,optR dv=((x,y),ok):=⟨_,_,_,rfl⟩;have HDD:=ae hdd;have HRC:=ae (show dT (colL A k)=au (colL A k) from fo (HCS.out k));clear hdv hdd;go_upto_region 10 with fail
     go_cut [7,8] (fun sx so wx=>∃ g:Nat,sx=.pointer (some ⟨g,0,none⟩)/\so=.bool dok/\Hid (ah E wx g d1 d2))
     case first =>
      have hk2:Ext E E.drew:=Ext.drew E;have hka:Ext E (E.alloc (.cells #[.int .i64 0,.int .i64 0] 43)).drew:=(Ext.alloc _ _).trans (Ext.drew _);have HKEEP:=ae (fun (w':World) (h:Ext E w')=>(⟨h.cellSome p0,h.cellSome p1,h.cellSome p2,h.cellSome q2,h⟩:w'.cell? ⟨w.heap.size,0,none⟩=some (.slice a yn ca)/\w'.cell? ⟨w.heap.size,1,none⟩=some (.slice b yn cb)/\w'.cell? ⟨w.heap.size,2,none⟩=some (.slice (some ⟨zb,zoff,none⟩) nc cc)/\w'.cell? ⟨w.heap.size+1,2,none⟩=some (.slice ya yn yc)/\Ext E w'))
      go_region_held3 (fun w'=>w'.cell? ⟨w.heap.size,0,none⟩=some (.slice a yn ca)/\w'.cell? ⟨w.heap.size,1,none⟩=some (.slice b yn cb)/\w'.cell? ⟨w.heap.size,2,none⟩=some (.slice (some ⟨zb,zoff,none⟩) nc cc)/\w'.cell? ⟨w.heap.size+1,2,none⟩=some (.slice ya yn yc)/\Ext E w')
       (first
         | with_reducible exact HKEEP.out _ hk2
         | with_reducible exact HKEEP.out _ hka
         | with_reducible exact HKEEP.out _ ((hk2.setCell (by first|(simp;done)|(simp;omega)) _).setCell (by first|(simp;done)|(simp;omega)) _)
         | with_reducible exact HKEEP.out _ (hk2.trans (Ext.alloc _ _))
         | with_reducible exact HKEEP.out _ (hBB.put _ _).ext)
       (first
         | (go_at_call 255
            (with_reducible refine (oD (b:=b) (nb:=yn) (cb:=cb) (c:=some ⟨zb,zoff,none⟩) (nc:=nc) (cc:=cc) (TE.out.lp.a.ext (by first|with_reducible exact hk2|with_reducible exact hka|with_reducible exact hk2.trans (Ext.alloc _ _))) HR4.out hlt (by omega) (by omega)).mono ?_)
            rintro e w3 ⟨⟨v3,rfl,ho3⟩,hx_w3⟩;obtain ⟨a3,n3,c3,rfl,hn3⟩:=ho3.var
            first|(with_reducible have hBB:=ah.grow hBB hx_w3)|(with_reducible have hBB:=ah.firstD hx_w3)|(with_reducible have hBB:=ah.laterD hk2 hx_w3)|skip
            first|(have b0_:=hBB.c0;have b1_:=hBB.c1;have fb_:=hBB.free)|skip
            have hk2:Ext E w3:=by first|with_reducible exact hk2.trans hx_w3|with_reducible exact hka.trans hx_w3|with_reducible exact (hk2.trans (Ext.alloc _ _)).trans hx_w3
            have hk2s:=hk2.size)
         | (go_at_call 179
            (with_reducible refine (hI (by first|with_reducible exact ho3.ints|with_reducible exact (ho3.ext (Ext.alloc _ _)).ints) (by have:=hn3.out;have:=HCL.out;have:=HLA.out;omega)).mono ?_)
            rw [HRC.out];rintro e w4 ⟨⟨v4,rfl,ho4⟩,hx_w4⟩;obtain ⟨a4,n4,c4,rfl,hn4⟩:=ho4.var
            first|(with_reducible have hBB:=ah.grow hBB hx_w4)|(with_reducible have hBB:=ah.firstD hx_w4)|(with_reducible have hBB:=ah.laterD hk2 hx_w4)|skip
            first|(have b0_:=hBB.c0;have b1_:=hBB.c1;have fb_:=hBB.free)|skip
            have hk2:Ext E w4:=by first|with_reducible exact hk2.trans hx_w4|with_reducible exact hka.trans hx_w4|with_reducible exact (hk2.trans (Ext.alloc _ _)).trans hx_w4
            have hk2s:=hk2.size)
         | (go_at_call 254
            (with_reducible refine (fh (TE.out.lr.y.ext (by first|with_reducible exact hk2|with_reducible exact hka|with_reducible exact hk2.trans (Ext.alloc _ _))) (by first|with_reducible exact ho4.rats|with_reducible exact (ho4.ext (Ext.alloc _ _)).rats)).mono ?_)
            rw [HDV.out,HDD.out];rintro e w5 ⟨rfl,hx_w5⟩
            first|(with_reducible have hBB:=ah.grow hBB hx_w5)|(with_reducible have hBB:=ah.firstD hx_w5)|(with_reducible have hBB:=ah.laterD hk2 hx_w5)|skip
            first|(have b0_:=hBB.c0;have b1_:=hBB.c1;have fb_:=hBB.free)|skip
            have hk2:Ext E w5:=by first|with_reducible exact hk2.trans hx_w5|with_reducible exact hka.trans hx_w5|with_reducible exact (hk2.trans (Ext.alloc _ _)).trans hx_w5
            have hk2s:=hk2.size)
         | fail)
      all_goals (go_wp2_with fail;go_meet;first|exact ⟨_,rfl,rfl,ae (hBB.put _ _)⟩|exact ⟨_,rfl,rfl,ae (ah.new hk2 _ _)⟩|exact ⟨_,rfl,rfl,ae (ah.new' hk2 _ _ (by simp))⟩)
     obtain ⟨g,rfl,rfl,HB1⟩:=hcut;have HB2:=ae (HB0.out.grow HB1.out.ext);have TW:=ae (TE.out.grow HB1.out.ext);clear p0 p1 p2 q0 q1 q2 q3 q4 q5;have c0:=HB2.out.c0;have c1:=HB2.out.c1;have g0:=HB1.out.c0;have g1':=HB1.out.c1;obtain ⟨l1,l2,lok,hll⟩:∃ x y ok,subR (cx,cy) (d1,d2)=((x,y),ok):=⟨_,_,_,rfl⟩;have HSB:=ae (ku cx cy d1 d2 wc);rw [hll] at HSB;have HLL:=ae hll;clear hll;go_wp2_with fail;refine HSB.out.mono ?_;rintro e w6 ⟨rfl,hx⟩;have TX:=ae ((TW.out.grow hx).grow (Ext.alloc _ (.cells #[.int .i64 l1,.int .i64 l2] 43)));clear hx;cases dv with
     | none =>
       have hdk:dok=false:=by have:=HDD.out;simp only [optR] at this;simpa using (congrArg Prod.snd this).symm
       subst hdk;have HF:=ae (show aD aK A B C ⟨1,rX,rY,rr,(v1,v2),rp⟩=false by rw [HE2.out,cY hlt (pF HDV.out)];rfl);go_wp2_with fail;go_ret;exact ⟨ag HF.out.symm,TX.out.all⟩
     | some dvv =>
       have hdk:dok=true:=by have:=HDD.out;simp only [optR] at this;simpa using (congrArg Prod.snd this).symm
       have hdv2:dvv=(d1,d2):=by have:=HDD.out;simp only [optR] at this;simpa using congrArg Prod.fst this
       subst hdk hdv2;have HBI:=ae (show aK A rY C k=(lok&&decide (0<=l1)) by rw [pG HDV.out HXY.out,HLL.out]);cases lok
       ·have HF:=ae (show aD aK A B C ⟨1,rX,rY,rr,(v1,v2),rp⟩=false by rw [HE2.out,cY hlt (by rw [HBI.out];rfl)];rfl);go_wp2_with fail;go_ret;exact ⟨ag HF.out.symm,TX.out.all⟩
       ·by_cases hl0:l1<0
        ·have HF:=ae (show aD aK A B C ⟨1,rX,rY,rr,(v1,v2),rp⟩=false by rw [HE2.out,cY hlt (by rw [HBI.out,decide_eq_false (by omega)];rfl)];rfl);go_wp2_with fail;go_ret;exact ⟨ag HF.out.symm,TX.out.all⟩
        ·have HT:=ae (show (List.range (k+1)).all (aK A rY C)=true by rw [fX,HA.out,HBI.out,decide_eq_true (by omega)];rfl);go_wp2_with fail
         go_roundg (g1-1)
         case measure=>have:=HK.out;omega
         case rel=>exact ⟨k+1,ae (by have:=HK.out;omega),by go_num,HT,TX⟩
    ·have hkn:nc=k:=by have:=HK.out;omega
     subst hkn;have HE3:=ae (show aD aK A B C ⟨1,rX,rY,rr,(v1,v2),rp⟩=gL B C ⟨1,rX,rY,rr,(v1,v2),rp⟩ by rw [HE2.out,HA.out];rfl);obtain ⟨p0,p1,p2⟩:=T.out.p;obtain ⟨q0,q1,q2,q3,q4,q5⟩:=T.out.q;obtain ⟨dx,hdx⟩:∃ d,d=dotL C rX:=⟨_,rfl⟩;obtain ⟨dy,hdy⟩:∃ d,d=dotL rY (au B):=⟨_,rfl⟩;have HM:=ae (show gL B C ⟨1,rX,rY,rr,(v1,v2),rp⟩=iP dx dy (v1,v2) by rw [oO,hdx,hdy]);obtain ⟨x1,x2,xok,hxx⟩:∃ x y ok,optR dx=((x,y),ok):=⟨_,_,_,rfl⟩;obtain ⟨y1,y2,yok,hyy2⟩:∃ x y ok,optR dy=((x,y),ok):=⟨_,_,_,rfl⟩;have HXX:=ae hxx;have HYY:=ae hyy2;have HDX:=ae (fh T.out.lp.c T.out.lr.x);have HDY:=ae hdy.symm;rw [<-hdx,hxx] at HDX;have HRB:=ae (show dT B=au B from fo HBS.out);clear hdx hdy hxx hyy2;go_wp2_with fail;refine HDX.out.mono ?_;rintro e w3 ⟨rfl,hx⟩;clear p0 p1 p2 q0 q1 q2 q3 q4 q5;obtain ⟨E,hE⟩:∃ E,E=w3.alloc (.cells #[.int .i64 x1,.int .i64 x2] 43):=⟨_,rfl⟩;have hxE:Ext w3 E:=by rw [hE];exact Ext.alloc _ _
     have TE:=ae ((T.out.grow hx).grow hxE);have HB0:=ae (show ah w3 E w3.heap.size x1 x2 by rw [hE];exact ah.new (Ext.refl _) _ _);go_upto_region 16 with fail;rw [<-hE];clear hE hxE hx;obtain ⟨p0,p1,p2⟩:=TE.out.p;obtain ⟨q0,q1,q2,q3,q4,q5⟩:=TE.out.q;go_upto_region 16 with fail
     go_cut [13,14] (fun sx so wx=>∃ g:Nat,sx=.pointer (some ⟨g,0,none⟩)/\so=.bool yok/\Hid (ah E wx g y1 y2))
     case first =>
      have hk2:Ext E E.drew:=Ext.drew E;have hka:Ext E (E.alloc (.cells #[.int .i64 0,.int .i64 0] 43)).drew:=(Ext.alloc _ _).trans (Ext.drew _);have HKEEP:=ae (fun (w':World) (h:Ext E w')=>(⟨h.cellSome p1,h.cellSome q2,h⟩:w'.cell? ⟨w.heap.size,1,none⟩=some (.slice b yn cb)/\w'.cell? ⟨w.heap.size+1,2,none⟩=some (.slice ya yn yc)/\Ext E w'))
      go_region_held3 (fun w'=>w'.cell? ⟨w.heap.size,1,none⟩=some (.slice b yn cb)/\w'.cell? ⟨w.heap.size+1,2,none⟩=some (.slice ya yn yc)/\Ext E w')
       (first
         | with_reducible exact HKEEP.out _ hk2
         | with_reducible exact HKEEP.out _ hka
         | with_reducible exact HKEEP.out _ ((hk2.setCell (by first|(simp;done)|(simp;omega)) _).setCell (by first|(simp;done)|(simp;omega)) _)
         | with_reducible exact HKEEP.out _ (hk2.trans (Ext.alloc _ _))
         | with_reducible exact HKEEP.out _ (hBB.put _ _).ext)
       (first
         | (go_at_call 179
            (with_reducible refine (hI (TE.out.lp.b.ext (by first|with_reducible exact hk2|with_reducible exact hka|with_reducible exact hk2.trans (Ext.alloc _ _))) (by omega)).mono ?_)
            rw [HRB.out];rintro e w4 ⟨⟨v4,rfl,ho4⟩,hx_w4⟩;obtain ⟨a4,n4,c4,rfl,hn4⟩:=ho4.var
            first|(with_reducible have hBB:=ah.grow hBB hx_w4)|(with_reducible have hBB:=ah.firstD hx_w4)|(with_reducible have hBB:=ah.laterD hk2 hx_w4)|skip
            first|(have b0_:=hBB.c0;have b1_:=hBB.c1;have fb_:=hBB.free)|skip
            have hk2:Ext E w4:=by first|with_reducible exact hk2.trans hx_w4|with_reducible exact hka.trans hx_w4|with_reducible exact (hk2.trans (Ext.alloc _ _)).trans hx_w4
            have hk2s:=hk2.size)
         | (go_at_call 254
            (with_reducible refine (fh (TE.out.lr.y.ext (by first|with_reducible exact hk2|with_reducible exact hka|with_reducible exact hk2.trans (Ext.alloc _ _))) (by first|with_reducible exact ho4.rats|with_reducible exact (ho4.ext (Ext.alloc _ _)).rats)).mono ?_)
            rw [HDY.out,HYY.out];rintro e w5 ⟨rfl,hx_w5⟩
            first|(with_reducible have hBB:=ah.grow hBB hx_w5)|(with_reducible have hBB:=ah.firstD hx_w5)|(with_reducible have hBB:=ah.laterD hk2 hx_w5)|skip
            first|(have b0_:=hBB.c0;have b1_:=hBB.c1;have fb_:=hBB.free)|skip
            have hk2:Ext E w5:=by first|with_reducible exact hk2.trans hx_w5|with_reducible exact hka.trans hx_w5|with_reducible exact (hk2.trans (Ext.alloc _ _)).trans hx_w5
            have hk2s:=hk2.size)
         | fail)
      all_goals (go_wp2_with fail;go_meet;first|exact ⟨_,rfl,rfl,ae (hBB.put _ _)⟩|exact ⟨_,rfl,rfl,ae (ah.new hk2 _ _)⟩|exact ⟨_,rfl,rfl,ae (ah.new' hk2 _ _ (by simp))⟩)
     obtain ⟨g,rfl,rfl,HB1⟩:=hcut;have HB2:=ae (HB0.out.grow HB1.out.ext);have TW:=ae (TE.out.grow HB1.out.ext);clear p0 p1 p2 q0 q1 q2 q3 q4 q5;obtain ⟨p0,p1,p2⟩:=TW.out.p;obtain ⟨q0,q1,q2,q3,q4,q5⟩:=TW.out.q;have c0:=HB2.out.c0;have c1:=HB2.out.c1;have g0:=HB1.out.c0;have g1':=HB1.out.c1;cases dx with
     | none =>
       have hdk:xok=false:=by have:=HXX.out;simp only [optR] at this;simpa using (congrArg Prod.snd this).symm
       subst hdk;go_wp2_with fail;go_ret;exact ⟨ag (by rw [HE3.out,HM.out,(iQ _ _).1]),TW.out.all⟩
     | some xv =>
       have hdk:xok=true:=by have:=HXX.out;simp only [optR] at this;simpa using (congrArg Prod.snd this).symm
       have hdv2:xv=(x1,x2):=by have:=HXX.out;simp only [optR] at this;simpa using congrArg Prod.fst this
       subst hdk hdv2;cases dy with
       | none =>
         have hdk:yok=false:=by have:=HYY.out;simp only [optR] at this;simpa using (congrArg Prod.snd this).symm
         subst hdk;go_wp2_with fail;go_ret;exact ⟨ag (by rw [HE3.out,HM.out,(iQ _ _).2]),TW.out.all⟩
       | some yv =>
         have hdk:yok=true:=by have:=HYY.out;simp only [optR] at this;simpa using (congrArg Prod.snd this).symm
         have hdv2:yv=(y1,y2):=by have:=HYY.out;simp only [optR] at this;simpa using congrArg Prod.fst this
         subst hdk hdv2;have HM2:=ae (show aD aK A B C ⟨1,rX,rY,rr,(v1,v2),rp⟩=(((x1 == y1)&&(x2 == y2))&&((x1 == v1)&&(x2 == v2))) by rw [HE3.out,HM.out,lB]);cases h1:(x1 == y1)
         all_goals
          cases h2:(x2 == y2)
         all_goals
          have HM3:=ae HM2.out;rw [h1,h2] at HM3
         all_goals try (
          have HF:=ae (show aD aK A B C ⟨1,rX,rY,rr,(v1,v2),rp⟩=false by rw [HM3.out];rfl);go_wp2_with fail;go_ret
          exact ⟨ag HF.out.symm,TW.out.all⟩)
         cases h3:(x1 == v1)
         all_goals
          cases h4:(x2 == v2)
         all_goals
          rw [h3,h4] at HM3;go_wp2_with fail;go_ret;exact ⟨ag (by rw [HM3.out];rfl),TW.out.all⟩
  ·have hyy:((yn:Int) != (nb:Int))=true:=by simp;omega
   have HF:=ae (show aD aK A B C ⟨1,rX,rY,rr,(v1,v2),rp⟩=false by rw [HE.out,HLY.out,HLB.out,decide_eq_false hyb];rfl);go_enter Tryz.func199,Tryz.ntmps199
   go_wp2_with fail;refine HV.out.mono ?_;rintro e w1 ⟨rfl,hx⟩;have T1:=ae (T0.out.grow hx);obtain ⟨p0,p1,p2⟩:=T1.out.p;obtain ⟨q0,q1,q2,q3,q4,q5⟩:=T1.out.q;clear hx;go_wp2_with fail;refine (HFB.out _ T1.out).mono ?_;rintro e w2 ⟨rfl,hx⟩;have T2:=ae (T1.out.grow hx);clear hx p0 p1 p2 q0 q1 q2 q3 q4 q5;obtain ⟨p0,p1,p2⟩:=T2.out.p;obtain ⟨q0,q1,q2,q3,q4,q5⟩:=T2.out.q;go_wp2_with fail;go_ret;exact ⟨ag HF.out.symm,T2.out.all⟩
end
end Go.Proofs.YthjjfkeacobikaaGreat
namespace Go.Proofs.YthjjfkeacobikaaGreat
set_option maxRecDepth 100000
open Go.RowKit
def noO (x:Option (Int × Int)):Bool:=match x with|none=>false|some v=>decide (v.1<=0)
def posO (x:Option (Int × Int)):Bool:=match x with|none=>false|some v=>decide (0<v.1)
def negO (x:Option (Int × Int)):Bool:=match x with|none=>false|some v=>decide (v.1<0)
def noF (A:List (List Int)) (Y:List (Int × Int)) (j:Nat):Bool:=noO (dotL Y (au (colL A j)))
theorem lH (A:List (List Int)) (B:List Int) (n:Nat) (Y:List (Int × Int)):jN A B n Y=((List.range n).all (noF A Y)&&posO (dotL Y (au B))):=rfl
theorem qz (A:List (List Int)) (B:List Int) (C:List (Int × Int)) (ray:List (Int × Int)):rayB A B C ray=((decide (ray.length=C.length)&&posV ray)&&(dd A ray (List.replicate B.length 0)&&negO (dotL C ray))):=by
 unfold rayB;rw [Bool.and_assoc];rfl
section
variable {w:World} {a:Option Addr} {na ca:Nat} {b:Option Addr} {nb cb:Nat} {c:Option Addr} {nc cc:Nat} {A:List (List Int)} {B:List Int} {C:List (Int × Int)}
 {xa:Option Addr} {xn xc:Nat} {ya:Option Addr} {yn yc:Nat} {ra:Option Addr} {rn rc:Nat} {r:LpR}
set_option maxHeartbeats 16000000 in
theorem qY (h:LpC w a na ca b nb cb c nc cc A B C) (h':LrC w xa xn xc ya yn yc ra rn rc r) (ok:okLP A B C=true) (hs:r.status=2) :
 Calls Tryz.prog 199 #[lpW a na ca b nb cb c nc cc,lrW r xa xn xc ya yn yc ra rn rc] w fun e w'=>e=.returned (.bool (aD aK A B C r))/\Ext w w':=by
 obtain ⟨r1,r2,r3,r4,r5,r6⟩:=cj h ok;subst r3;have T0:=ae (show Two w ((w.alloc (be a nb ca b nb cb c nc cc)).alloc (bI r xa xn xc ya yn yc ra rn rc)) a nb ca b nb cb c nc cc xa xn xc ya yn yc ra rn rc r A B C from ⟨Ext.refl _,(h.ext (Ext.alloc _ _)).ext (Ext.alloc _ _),(h'.ext (Ext.alloc _ _)).ext (Ext.alloc _ _)⟩);have hy1:=h'.y.hcap;have hy2:=h'.y.hmax;have hc1:=h.c.hcap;have hc2:=h.c.hmax;have hb1:=h.b.hcap;have hb2:=h.b.hmax;have HLC:=ae h.c.hlen;have HLB:=ae h.b.hlen;have HLA:=ae h.a.hlen;have HLY:=ae h'.y.hlen;have HE:=ae (show aD aK A B C r=(decide (r.Y.length=B.length)&&jN A B C.length r.Y) by unfold aD;rw [if_neg (by omega),if_pos hs]);have HR4:=ae r4;have HCS:=ae (fun j=>gG (A:=A) (fun i hi=>(r5 i (by have:=h.a.hlen;omega)).2) j);have HBS:=ae r6;obtain ⟨st,rX,rY,rr,rv,rp⟩:=r;obtain ⟨v1,v2⟩:=rv;simp only at hs HE HLY;subst hs;have HV:=ae (ee T0.out.lp);rw [ok] at HV;clear h h' r4 r5 r6;have HS0:((2:Int) == 1)=false:=by decide
 by_cases hyb:yn=nb
 ·subst hyb;have hyy:((yn:Int) != (yn:Int))=false:=by simp
  have HE2:=ae (show aD aK A B C ⟨2,rX,rY,rr,(v1,v2),rp⟩=((List.range nc).all (noF A rY)&&posO (dotL rY (au B))) by rw [HE.out,HLY.out,HLB.out,HLC.out,decide_eq_true rfl,lH];rfl);go_enter Tryz.func199,Tryz.ntmps199
  go_wp2_with fail;refine HV.out.mono ?_;rintro e w1 ⟨rfl,hx⟩;have T1:=ae (T0.out.grow hx);obtain ⟨p0,p1,p2⟩:=T1.out.p;obtain ⟨q0,q1,q2,q3,q4,q5⟩:=T1.out.q;clear hx;go_wp2_with fail
  go_loopg [123] nc (fun gk ii wr=>∃ k:Nat,Hid (gk+k=nc)/\ii=.int .i64 (k:Int)/\Hid ((List.range k).all (noF A rY)=true)/\Hid (Two w wr a yn ca b yn cb c nc cc xa xn xc ya yn yc ra rn rc ⟨2,rX,rY,rr,(v1,v2),rp⟩ A B C))
  case atStart=>exact ⟨0,ae (by omega),rfl,ae rfl,T1⟩
  case round =>
   obtain ⟨g1,h_g1⟩:∃ x,x=gk:=⟨_,rfl⟩;subst h_g1;obtain ⟨wr1,h_wr1⟩:∃ x,x=wr:=⟨_,rfl⟩;subst h_wr1;obtain ⟨k,HK,rfl,HA,T⟩:=hrel;clear p0 p1 p2 q0 q1 q2 q3 q4 q5;by_cases hlt:k<nc
   ·go_upto_region 24 with fail;obtain ⟨p0,p1,p2⟩:=T.out.p;obtain ⟨q0,q1,q2,q3,q4,q5⟩:=T.out.q;have HCL:=ae (ko A k);obtain ⟨dv,hdv⟩:∃ d,d=dotL rY (au (colL A k)):=⟨_,rfl⟩;have HDV:=ae hdv.symm;obtain ⟨d1,d2,dok,hdd⟩:∃ x y ok,optR dv=((x,y),ok):=⟨_,_,_,rfl⟩;have HDD:=ae hdd;have HRC:=ae (show dT (colL A k)=au (colL A k) from fo (HCS.out k));have HNF:=ae (show noF A rY k=noO dv by unfold noF;rw [hdv]);clear hdv hdd;go_upto_region 24 with fail
    go_cut [16,17] (fun sx so wx=>∃ g:Nat,sx=.pointer (some ⟨g,0,none⟩)/\so=.bool dok/\Hid (ah wr1 wx g d1 d2))
    case first =>
     have hk2:Ext wr1 wr1.drew:=Ext.drew wr1;have hka:Ext wr1 (wr1.alloc (.cells #[.int .i64 0,.int .i64 0] 43)).drew:=(Ext.alloc _ _).trans (Ext.drew _);have HKEEP:=ae (fun (w':World) (h:Ext wr1 w')=>(⟨h.cellSome p0,h.cellSome p1,h.cellSome p2,h.cellSome q2,h⟩:w'.cell? ⟨w.heap.size,0,none⟩=some (.slice a yn ca)/\w'.cell? ⟨w.heap.size,1,none⟩=some (.slice b yn cb)/\w'.cell? ⟨w.heap.size,2,none⟩=some (.slice c nc cc)/\w'.cell? ⟨w.heap.size+1,2,none⟩=some (.slice ya yn yc)/\Ext wr1 w'))
     go_region_held3 (fun w'=>w'.cell? ⟨w.heap.size,0,none⟩=some (.slice a yn ca)/\w'.cell? ⟨w.heap.size,1,none⟩=some (.slice b yn cb)/\w'.cell? ⟨w.heap.size,2,none⟩=some (.slice c nc cc)/\w'.cell? ⟨w.heap.size+1,2,none⟩=some (.slice ya yn yc)/\Ext wr1 w')
      (first
        | with_reducible exact HKEEP.out _ hk2
        | with_reducible exact HKEEP.out _ hka
        | with_reducible exact HKEEP.out _ ((hk2.setCell (by first|(simp;done)|(simp;omega)) _).setCell (by first|(simp;done)|(simp;omega)) _)
        | with_reducible exact HKEEP.out _ (hk2.trans (Ext.alloc _ _))
        | with_reducible exact HKEEP.out _ (hBB.put _ _).ext)
      (first
        | (go_at_call 255
           (with_reducible refine (oD (b:=b) (nb:=yn) (cb:=cb) (c:=c) (nc:=nc) (cc:=cc) (T.out.lp.a.ext (by first|with_reducible exact hk2|with_reducible exact hka|with_reducible exact hk2.trans (Ext.alloc _ _))) HR4.out hlt (by omega) (by omega)).mono ?_)
           rintro e w3 ⟨⟨v3,rfl,ho3⟩,hx_w3⟩;obtain ⟨a3,n3,c3,rfl,hn3⟩:=ho3.var
           first|(with_reducible have hBB:=ah.grow hBB hx_w3)|(with_reducible have hBB:=ah.firstD hx_w3)|(with_reducible have hBB:=ah.laterD hk2 hx_w3)|skip
           first|(have b0_:=hBB.c0;have b1_:=hBB.c1;have fb_:=hBB.free)|skip
           have hk2:Ext wr1 w3:=by first|with_reducible exact hk2.trans hx_w3|with_reducible exact hka.trans hx_w3|with_reducible exact (hk2.trans (Ext.alloc _ _)).trans hx_w3
           have hk2s:=hk2.size)
        | (go_at_call 179
           (with_reducible refine (hI (by first|with_reducible exact ho3.ints|with_reducible exact (ho3.ext (Ext.alloc _ _)).ints) (by have:=hn3.out;have:=HCL.out;have:=HLA.out;omega)).mono ?_)
           rw [HRC.out];rintro e w4 ⟨⟨v4,rfl,ho4⟩,hx_w4⟩;obtain ⟨a4,n4,c4,rfl,hn4⟩:=ho4.var
           first|(with_reducible have hBB:=ah.grow hBB hx_w4)|(with_reducible have hBB:=ah.firstD hx_w4)|(with_reducible have hBB:=ah.laterD hk2 hx_w4)|skip
           first|(have b0_:=hBB.c0;have b1_:=hBB.c1;have fb_:=hBB.free)|skip
           have hk2:Ext wr1 w4:=by first|with_reducible exact hk2.trans hx_w4|with_reducible exact hka.trans hx_w4|with_reducible exact (hk2.trans (Ext.alloc _ _)).trans hx_w4
           have hk2s:=hk2.size)
        | (go_at_call 254
           (with_reducible refine (fh (T.out.lr.y.ext (by first|with_reducible exact hk2|with_reducible exact hka|with_reducible exact hk2.trans (Ext.alloc _ _))) (by first|with_reducible exact ho4.rats|with_reducible exact (ho4.ext (Ext.alloc _ _)).rats)).mono ?_)
           rw [HDV.out,HDD.out];rintro e w5 ⟨rfl,hx_w5⟩
           first|(with_reducible have hBB:=ah.grow hBB hx_w5)|(with_reducible have hBB:=ah.firstD hx_w5)|(with_reducible have hBB:=ah.laterD hk2 hx_w5)|skip
           first|(have b0_:=hBB.c0;have b1_:=hBB.c1;have fb_:=hBB.free)|skip
           have hk2:Ext wr1 w5:=by first|with_reducible exact hk2.trans hx_w5|with_reducible exact hka.trans hx_w5|with_reducible exact (hk2.trans (Ext.alloc _ _)).trans hx_w5
           have hk2s:=hk2.size)
        | fail)
     all_goals (go_wp2_with fail;go_meet;first|exact ⟨_,rfl,rfl,ae (hBB.put _ _)⟩|exact ⟨_,rfl,rfl,ae (ah.new hk2 _ _)⟩|exact ⟨_,rfl,rfl,ae (ah.new' hk2 _ _ (by simp))⟩)
    obtain ⟨g,rfl,rfl,HB1⟩:=hcut;have TW:=ae (T.out.grow HB1.out.ext);clear p0 p1 p2 q0 q1 q2 q3 q4 q5;have g0:=HB1.out.c0;cases dv with
    | none =>
      have hdk:dok=false:=by have:=HDD.out;simp only [optR] at this;simpa using (congrArg Prod.snd this).symm
      subst hdk;have HF:=ae (show aD aK A B C ⟨2,rX,rY,rr,(v1,v2),rp⟩=false by rw [HE2.out,cY hlt (by rw [HNF.out];rfl)];rfl);go_wp2_with fail;go_ret;exact ⟨ag HF.out.symm,TW.out.all⟩
    | some dvv =>
      have hdk:dok=true:=by have:=HDD.out;simp only [optR] at this;simpa using (congrArg Prod.snd this).symm
      have hdv2:dvv=(d1,d2):=by have:=HDD.out;simp only [optR] at this;simpa using congrArg Prod.fst this
      subst hdk hdv2;by_cases hl0:d1 > 0
      ·have HF:=ae (show aD aK A B C ⟨2,rX,rY,rr,(v1,v2),rp⟩=false by rw [HE2.out,cY hlt (by rw [HNF.out];exact decide_eq_false (by omega))];rfl);go_wp2_with fail;go_ret;exact ⟨ag HF.out.symm,TW.out.all⟩
      ·have HT:=ae (show (List.range (k+1)).all (noF A rY)=true by rw [fX,HA.out,HNF.out,Bool.true_and];exact decide_eq_true (by omega));go_wp2_with fail
       go_roundg (g1-1)
       case measure=>have:=HK.out;omega
       case rel=>exact ⟨k+1,ae (by have:=HK.out;omega),by go_num,HT,TW⟩
   ·have hkn:nc=k:=by have:=HK.out;omega
    subst hkn;have HE3:=ae (show aD aK A B C ⟨2,rX,rY,rr,(v1,v2),rp⟩=posO (dotL rY (au B)) by rw [HE2.out,HA.out];rfl);obtain ⟨dy,hdy⟩:∃ d,d=dotL rY (au B):=⟨_,rfl⟩;rw [<-hdy] at HE3;obtain ⟨y1,y2,yok,hyy2⟩:∃ x y ok,optR dy=((x,y),ok):=⟨_,_,_,rfl⟩;have HYY:=ae hyy2;have HDY:=ae hdy.symm;have HRB:=ae (show dT B=au B from fo HBS.out);clear hdy hyy2;go_upto_region 28 with fail;obtain ⟨p0,p1,p2⟩:=T.out.p;obtain ⟨q0,q1,q2,q3,q4,q5⟩:=T.out.q;go_upto_region 28 with fail
    go_cut [18,19] (fun sx so wx=>∃ g:Nat,sx=.pointer (some ⟨g,0,none⟩)/\so=.bool yok/\Hid (ah wr1 wx g y1 y2))
    case first =>
     have hk2:Ext wr1 wr1.drew:=Ext.drew wr1;have hka:Ext wr1 (wr1.alloc (.cells #[.int .i64 0,.int .i64 0] 43)).drew:=(Ext.alloc _ _).trans (Ext.drew _);have HKEEP:=ae (fun (w':World) (h:Ext wr1 w')=>(⟨h.cellSome p1,h.cellSome q2,h⟩:w'.cell? ⟨w.heap.size,1,none⟩=some (.slice b yn cb)/\w'.cell? ⟨w.heap.size+1,2,none⟩=some (.slice ya yn yc)/\Ext wr1 w'))
     go_region_held3 (fun w'=>w'.cell? ⟨w.heap.size,1,none⟩=some (.slice b yn cb)/\w'.cell? ⟨w.heap.size+1,2,none⟩=some (.slice ya yn yc)/\Ext wr1 w')
      (first
        | with_reducible exact HKEEP.out _ hk2
        | with_reducible exact HKEEP.out _ hka
        | with_reducible exact HKEEP.out _ ((hk2.setCell (by first|(simp;done)|(simp;omega)) _).setCell (by first|(simp;done)|(simp;omega)) _)
        | with_reducible exact HKEEP.out _ (hk2.trans (Ext.alloc _ _))
        | with_reducible exact HKEEP.out _ (hBB.put _ _).ext)
      (first
        | (go_at_call 179
           (with_reducible refine (hI (T.out.lp.b.ext (by first|with_reducible exact hk2|with_reducible exact hka|with_reducible exact hk2.trans (Ext.alloc _ _))) (by omega)).mono ?_)
           rw [HRB.out];rintro e w4 ⟨⟨v4,rfl,ho4⟩,hx_w4⟩;obtain ⟨a4,n4,c4,rfl,hn4⟩:=ho4.var
           first|(with_reducible have hBB:=ah.grow hBB hx_w4)|(with_reducible have hBB:=ah.firstD hx_w4)|(with_reducible have hBB:=ah.laterD hk2 hx_w4)|skip
           first|(have b0_:=hBB.c0;have b1_:=hBB.c1;have fb_:=hBB.free)|skip
           have hk2:Ext wr1 w4:=by first|with_reducible exact hk2.trans hx_w4|with_reducible exact hka.trans hx_w4|with_reducible exact (hk2.trans (Ext.alloc _ _)).trans hx_w4
           have hk2s:=hk2.size)
        | (go_at_call 254
           (with_reducible refine (fh (T.out.lr.y.ext (by first|with_reducible exact hk2|with_reducible exact hka|with_reducible exact hk2.trans (Ext.alloc _ _))) (by first|with_reducible exact ho4.rats|with_reducible exact (ho4.ext (Ext.alloc _ _)).rats)).mono ?_)
           rw [HDY.out,HYY.out];rintro e w5 ⟨rfl,hx_w5⟩
           first|(with_reducible have hBB:=ah.grow hBB hx_w5)|(with_reducible have hBB:=ah.firstD hx_w5)|(with_reducible have hBB:=ah.laterD hk2 hx_w5)|skip
           first|(have b0_:=hBB.c0;have b1_:=hBB.c1;have fb_:=hBB.free)|skip
           have hk2:Ext wr1 w5:=by first|with_reducible exact hk2.trans hx_w5|with_reducible exact hka.trans hx_w5|with_reducible exact (hk2.trans (Ext.alloc _ _)).trans hx_w5
           have hk2s:=hk2.size)
        | fail)
     all_goals (go_wp2_with fail;go_meet;first|exact ⟨_,rfl,rfl,ae (hBB.put _ _)⟩|exact ⟨_,rfl,rfl,ae (ah.new hk2 _ _)⟩|exact ⟨_,rfl,rfl,ae (ah.new' hk2 _ _ (by simp))⟩)
    obtain ⟨g,rfl,rfl,HB1⟩:=hcut;have TW:=ae (T.out.grow HB1.out.ext);clear p0 p1 p2 q0 q1 q2 q3 q4 q5;have g0:=HB1.out.c0;cases dy with
    | none =>
      have hdk:yok=false:=by have:=HYY.out;simp only [optR] at this;simpa using (congrArg Prod.snd this).symm
      subst hdk;go_wp2_with fail;go_ret;exact ⟨ag (by rw [HE3.out];rfl),TW.out.all⟩
    | some yv =>
      have hdk:yok=true:=by have:=HYY.out;simp only [optR] at this;simpa using (congrArg Prod.snd this).symm
      have hdv2:yv=(y1,y2):=by have:=HYY.out;simp only [optR] at this;simpa using congrArg Prod.fst this
      subst hdk hdv2;by_cases hy0:y1 > 0
      ·go_wp2_with fail;go_ret;exact ⟨ag (by rw [HE3.out];exact (decide_eq_true hy0).symm),TW.out.all⟩
      ·go_wp2_with fail;go_ret;exact ⟨ag (by rw [HE3.out];exact (decide_eq_false (by omega)).symm),TW.out.all⟩
 ·have hyy:((yn:Int) != (nb:Int))=true:=by simp;omega
  have HF:=ae (show aD aK A B C ⟨2,rX,rY,rr,(v1,v2),rp⟩=false by rw [HE.out,HLY.out,HLB.out,decide_eq_false hyb];rfl);go_enter Tryz.func199,Tryz.ntmps199
  go_wp2_with fail;refine HV.out.mono ?_;rintro e w1 ⟨rfl,hx⟩;have T1:=ae (T0.out.grow hx);obtain ⟨p0,p1,p2⟩:=T1.out.p;obtain ⟨q0,q1,q2,q3,q4,q5⟩:=T1.out.q;clear hx;go_wp2_with fail;go_ret;exact ⟨ag HF.out.symm,T1.out.all⟩
end
end Go.Proofs.YthjjfkeacobikaaGreat
namespace Go.Proofs.YthjjfkeacobikaaGreat
set_option maxRecDepth 100000
open Go.RowKit
section
variable {w:World} {a:Option Addr} {na ca:Nat} {b:Option Addr} {nb cb:Nat} {c:Option Addr} {nc cc:Nat} {A:List (List Int)} {B:List Int} {C:List (Int × Int)}
 {xa:Option Addr} {xn xc:Nat} {ya:Option Addr} {yn yc:Nat} {ra:Option Addr} {rn rc:Nat} {r:LpR}
set_option maxHeartbeats 16000000 in
theorem qZ (h:LpC w a na ca b nb cb c nc cc A B C) (h':LrC w xa xn xc ya yn yc ra rn rc r) (ok:okLP A B C=true) (hs:r.status=3) :
 Calls Tryz.prog 199 #[lpW a na ca b nb cb c nc cc,lrW r xa xn xc ya yn yc ra rn rc] w fun e w'=>e=.returned (.bool (aD aK A B C r))/\Ext w w':=by
 obtain ⟨r1,r2,r3,r4,r5,r6⟩:=cj h ok;subst r3;have T0:=ae (show Two w ((w.alloc (be a nb ca b nb cb c nc cc)).alloc (bI r xa xn xc ya yn yc ra rn rc)) a nb ca b nb cb c nc cc xa xn xc ya yn yc ra rn rc r A B C from ⟨Ext.refl _,(h.ext (Ext.alloc _ _)).ext (Ext.alloc _ _),(h'.ext (Ext.alloc _ _)).ext (Ext.alloc _ _)⟩);have hy1:=h'.y.hcap;have hy2:=h'.y.hmax;have hc1:=h.c.hcap;have hc2:=h.c.hmax;have hb1:=h.b.hcap;have hb2:=h.b.hmax;have HLC:=ae h.c.hlen;have HLB:=ae h.b.hlen;have HLA:=ae h.a.hlen;have HLY:=ae h'.y.hlen;have HE:=ae (show aD aK A B C r=(dj A B C.length r.X&&rayB A B C r.ray) by unfold aD;rw [if_neg (by omega),if_neg (by omega),if_pos hs]);have HR4:=ae r4;have HR5:=ae r5;have HCS:=ae (fun j=>gG (A:=A) (fun i hi=>(r5 i (by have:=h.a.hlen;omega)).2) j);have HBS:=ae r6;obtain ⟨st,rX,rY,rr,rv,rp⟩:=r;obtain ⟨v1,v2⟩:=rv;simp only at hs HE HLY;subst hs;have HV:=ae (ee T0.out.lp);rw [ok] at HV;clear h h' r4 r5 r6;have HFB:=ae (fun (W:World) (t:Two w W a nb ca b nb cb c nc cc xa xn xc ya yn yc ra rn rc ⟨3,rX,rY,rr,(v1,v2),rp⟩ A B C)=>js t.lp t.lr.x);rw [ok] at HFB;simp only [Bool.true_and] at HFB;have HS1:((3:Int) == 1)=false:=by decide
 have HS2:((3:Int) == 2)=false:=by decide
 cases hf:dj A B C.length rX
 ·rw [hf] at HFB HE;clear hf;go_enter Tryz.func199,Tryz.ntmps199
  go_wp2_with fail;refine HV.out.mono ?_;rintro e w1 ⟨rfl,hx⟩;have T1:=ae (T0.out.grow hx);obtain ⟨p0,p1,p2⟩:=T1.out.p;obtain ⟨q0,q1,q2,q3,q4,q5⟩:=T1.out.q;clear hx;go_upto_region 31 with fail;have hk2:Ext w1 w1.drew:=Ext.drew w1;refine wp_region_held_drew (S:=(fun w'=>w'.cell? ⟨w.heap.size,0,none⟩=some (.slice a nb ca)/\w'.cell? ⟨w.heap.size,1,none⟩=some (.slice b nb cb)/\w'.cell? ⟨w.heap.size,2,none⟩=some (.slice c nc cc)/\w'.cell? ⟨w.heap.size+1,1,none⟩=some (.slice xa xn xc)/\w'.cell? ⟨w.heap.size+1,3,none⟩=some (.slice ra rn rc)/\Ext w1 w')) (by kernel_rfl) ?_ (fun hHeld=>?_)
  ·exact ⟨hk2.cellSome p0,hk2.cellSome p1,hk2.cellSome p2,hk2.cellSome q1,hk2.cellSome q3,hk2⟩
  refine tk 0 ?_;refine tk 1 ?_;refine tk 2 ?_;refine rd (i:=3) (h:=fun K hK=>?_);go_simp
  (go_at_call 253;refine (HFB.out _ (T1.out.grow hk2)).mono ?_;rintro e w3 ⟨rfl,hx3⟩;have hk2:=hk2.trans hx3)
  go_wp2_with fail;refine hK.out _ _ ?_ (fun hHeld=>?_)
  ·exact ⟨hk2.cellSome p0,hk2.cellSome p1,hk2.cellSome p2,hk2.cellSome q1,hk2.cellSome q3,hk2⟩
  clear hK K
  try simp only [Act.put,sA,sB,sC]
  refine tk 4 ?_;refine tk 5 ?_;refine sk 6 ?_;refine sk 7 ?_;refine sk 8 ?_;refine sk 9 ?_;refine sk 10 ?_;refine sk 11 ?_;refine sk 12 ?_;refine tk 13 ?_;refine tk 14 ?_;refine sk 15 ?_;refine sk 16 ?_;refine sk 17 ?_;refine sk 18 ?_;refine sk 19 ?_;refine sk 20 ?_;refine sk 21 ?_;refine sk 22 ?_;refine sk 23 ?_;refine tk 24 ?_;refine wpAnyH_done (by kernel_rfl) ?_ _;go_wp2_with fail;go_ret;exact ⟨ag (by rw [HE.out];rfl),(T1.out.grow hk2).all⟩
 ·rw [hf] at HFB HE;clear hf;have HE2:=ae (show aD aK A B C ⟨3,rX,rY,rr,(v1,v2),rp⟩=((decide (rr.length=nc)&&posV rr)&&(dd A rr (List.replicate nb 0)&&negO (dotL C rr))) by rw [HE.out,qz,HLC.out,HLB.out,Bool.true_and]);have HNN:=ae (fun (W:World) (t:Two w W a nb ca b nb cb c nc cc xa xn xc ya yn yc ra rn rc ⟨3,rX,rY,rr,(v1,v2),rp⟩ A B C)=>jg t.lr.ray nc);cases hn:(decide (rr.length=nc)&&posV rr)
  ·rw [hn] at HE2;simp only [hn] at HNN;clear hn;go_enter Tryz.func199,Tryz.ntmps199
   go_wp2_with fail;refine HV.out.mono ?_;rintro e w1 ⟨rfl,hx⟩;have T1:=ae (T0.out.grow hx);obtain ⟨p0,p1,p2⟩:=T1.out.p;obtain ⟨q0,q1,q2,q3,q4,q5⟩:=T1.out.q;clear hx;go_upto_region 31 with fail;have hk2:Ext w1 w1.drew:=Ext.drew w1;refine wp_region_held_drew (S:=(fun w'=>w'.cell? ⟨w.heap.size,0,none⟩=some (.slice a nb ca)/\w'.cell? ⟨w.heap.size,1,none⟩=some (.slice b nb cb)/\w'.cell? ⟨w.heap.size,2,none⟩=some (.slice c nc cc)/\w'.cell? ⟨w.heap.size+1,1,none⟩=some (.slice xa xn xc)/\w'.cell? ⟨w.heap.size+1,3,none⟩=some (.slice ra rn rc)/\Ext w1 w')) (by kernel_rfl) ?_ (fun hHeld=>?_)
   ·exact ⟨hk2.cellSome p0,hk2.cellSome p1,hk2.cellSome p2,hk2.cellSome q1,hk2.cellSome q3,hk2⟩
   refine tk 0 ?_;refine tk 1 ?_;refine tk 2 ?_;refine rd (i:=3) (h:=fun K hK=>?_);go_simp
   (go_at_call 253;refine (HFB.out _ (T1.out.grow hk2)).mono ?_;rintro e w3 ⟨rfl,hx3⟩;have hk2:=hk2.trans hx3)
   go_wp2_with fail;refine hK.out _ _ ?_ (fun hHeld=>?_)
   ·exact ⟨hk2.cellSome p0,hk2.cellSome p1,hk2.cellSome p2,hk2.cellSome q1,hk2.cellSome q3,hk2⟩
   clear hK K
   try simp only [Act.put,sA,sB,sC]
   refine tk 4 ?_;refine tk 5 ?_;refine tk 6 ?_;refine tk 7 ?_;refine tk 8 ?_;refine tk 9 ?_;refine tk 10 ?_;refine rd (i:=11) (h:=fun K hK=>?_);go_simp
   (go_at_call 256;refine (HNN.out _ (T1.out.grow hk2)).mono ?_;rintro e w4 ⟨rfl,hx4⟩;have hk2:=hk2.trans hx4)
   go_wp2_with fail;refine hK.out _ _ ?_ (fun hHeld=>?_)
   ·exact ⟨hk2.cellSome p0,hk2.cellSome p1,hk2.cellSome p2,hk2.cellSome q1,hk2.cellSome q3,hk2⟩
   clear hK K
   try simp only [Act.put,sA,sB,sC]
   refine tk 12 ?_;refine tk 13 ?_;refine tk 14 ?_;refine sk 15 ?_;refine sk 16 ?_;refine sk 17 ?_;refine sk 18 ?_;refine sk 19 ?_;refine sk 20 ?_;refine sk 21 ?_;refine sk 22 ?_;refine sk 23 ?_;refine tk 24 ?_;refine wpAnyH_done (by kernel_rfl) ?_ _;go_wp2_with fail;go_ret;exact ⟨ag (by rw [HE2.out];rfl),(T1.out.grow hk2).all⟩
  ·rw [hn] at HE2;simp only [hn] at HNN;clear hn;have hmk:=ix nb (by omega);have HGV:=ae (fun (W:World) (t:Two w W a nb ca b nb cb c nc cc xa xn xc ya yn yc ra rn rc ⟨3,rX,rY,rr,(v1,v2),rp⟩ A B C)=>qp (b:=b) (nb:=nb) (cb:=cb) (c:=c) (nc:=nc) (cc:=cc) (t.grow (Ext.alloc W (.cells (aZ (List.replicate nb 0)) 3))).lp.a (t.grow (Ext.alloc W (.cells (aZ (List.replicate nb 0)) 3))).lr.ray (Row.ints (show Row (W.alloc (.cells (aZ (List.replicate nb 0)) 3)) W.heap.size 3 (List.replicate nb 0) from heap_alloc_new _ _) (by simp) (Nat.le_refl nb) (by omega)) (Nat.le_refl _) HR5.out);obtain ⟨gv,hgv⟩:∃ g,g=dd A rr (List.replicate nb 0):=⟨_,rfl⟩;rw [<-hgv] at HE2;simp only [<-hgv] at HGV;clear hgv;go_enter Tryz.func199,Tryz.ntmps199
   go_wp2_with fail;refine HV.out.mono ?_;rintro e w1 ⟨rfl,hx⟩;have T1:=ae (T0.out.grow hx);obtain ⟨p0,p1,p2⟩:=T1.out.p;obtain ⟨q0,q1,q2,q3,q4,q5⟩:=T1.out.q;clear hx;go_upto_region 31 with fail;have hk2:Ext w1 w1.drew:=Ext.drew w1;refine wp_region_held_drew (S:=(fun w'=>w'.cell? ⟨w.heap.size,0,none⟩=some (.slice a nb ca)/\w'.cell? ⟨w.heap.size,1,none⟩=some (.slice b nb cb)/\w'.cell? ⟨w.heap.size,2,none⟩=some (.slice c nc cc)/\w'.cell? ⟨w.heap.size+1,1,none⟩=some (.slice xa xn xc)/\w'.cell? ⟨w.heap.size+1,3,none⟩=some (.slice ra rn rc)/\Ext w1 w')) (by kernel_rfl) ?_ (fun hHeld=>?_)
   ·exact ⟨hk2.cellSome p0,hk2.cellSome p1,hk2.cellSome p2,hk2.cellSome q1,hk2.cellSome q3,hk2⟩
   refine tk 0 ?_;refine tk 1 ?_;refine tk 2 ?_;refine rd (i:=3) (h:=fun K hK=>?_);go_simp
   (go_at_call 253;refine (HFB.out _ (T1.out.grow hk2)).mono ?_;rintro e w3 ⟨rfl,hx3⟩;have hk2:=hk2.trans hx3)
   go_wp2_with fail;refine hK.out _ _ ?_ (fun hHeld=>?_)
   ·exact ⟨hk2.cellSome p0,hk2.cellSome p1,hk2.cellSome p2,hk2.cellSome q1,hk2.cellSome q3,hk2⟩
   clear hK K
   try simp only [Act.put,sA,sB,sC]
   refine tk 4 ?_;refine tk 5 ?_;refine tk 6 ?_;refine tk 7 ?_;refine tk 8 ?_;refine tk 9 ?_;refine tk 10 ?_;refine rd (i:=11) (h:=fun K hK=>?_);go_simp
   (go_at_call 256;refine (HNN.out _ (T1.out.grow hk2)).mono ?_;rintro e w4 ⟨rfl,hx4⟩;have hk2:=hk2.trans hx4)
   go_wp2_with fail;refine hK.out _ _ ?_ (fun hHeld=>?_)
   ·exact ⟨hk2.cellSome p0,hk2.cellSome p1,hk2.cellSome p2,hk2.cellSome q1,hk2.cellSome q3,hk2⟩
   clear hK K
   try simp only [Act.put,sA,sB,sC]
   refine tk 12 ?_;refine tk 13 ?_;refine tk 14 ?_;refine tk 15 ?_;refine tk 16 ?_;refine tk 17 ?_;refine tk 18 ?_;refine tk 19 ?_;refine tk 20 ?_;have TG:=ae (T1.out.grow hk2);have hk9:=hk2;have hk2:=hk9.trans (Ext.alloc w4 (.cells (aZ (List.replicate nb 0)) 3));refine rd (i:=21) (h:=fun K hK=>?_);go_simp;refine hK.out _ _ ?_ (fun hHeld=>?_)
   ·exact ⟨hk2.cellSome p0,hk2.cellSome p1,hk2.cellSome p2,hk2.cellSome q1,hk2.cellSome q3,hk2⟩
   clear hK K
   try simp only [Act.put,sA,sB,sC]
   refine rd (i:=22) (h:=fun K hK=>?_);go_simp
   (go_at_call 257;refine (HGV.out _ TG.out).mono ?_;rintro e w5 ⟨rfl,hx5⟩;have hk2:=hk2.trans hx5)
   go_wp2_with fail;refine hK.out _ _ ?_ (fun hHeld=>?_)
   ·exact ⟨hk2.cellSome p0,hk2.cellSome p1,hk2.cellSome p2,hk2.cellSome q1,hk2.cellSome q3,hk2⟩
   clear hK K
   try simp only [Act.put,sA,sB,sC]
   refine tk 23 ?_;refine tk 24 ?_;refine wpAnyH_done (by kernel_rfl) ?_ _;have TW:=ae (T1.out.grow hk2);clear hk2 hk9 p0 p1 p2 q0 q1 q2 q3 q4 q5;obtain ⟨p0,p1,p2⟩:=TW.out.p;obtain ⟨q0,q1,q2,q3,q4,q5⟩:=TW.out.q;cases gv
   ·go_wp2_with fail;go_ret;exact ⟨ag (by rw [HE2.out];rfl),TW.out.all⟩
   ·obtain ⟨dx,hdx⟩:∃ d,d=dotL C rr:=⟨_,rfl⟩;have HDX:=ae (fh TW.out.lp.c TW.out.lr.ray);have HE3:=ae (show aD aK A B C ⟨3,rX,rY,rr,(v1,v2),rp⟩=negO dx by rw [HE2.out,hdx];rfl);rw [<-hdx] at HDX;clear hdx;cases dx with
    | none =>
      rw [show optR none=((0,0),false) from rfl] at HDX;go_wp2_with fail;refine HDX.out.mono ?_;rintro e w6 ⟨rfl,hx⟩;have TX:=ae ((TW.out.grow hx).grow (Ext.alloc _ (.cells #[.int .i64 0,.int .i64 0] 43)));clear hx;go_wp2_with fail;go_ret;exact ⟨ag (by rw [HE3.out];rfl),TX.out.all⟩
    | some v =>
      obtain ⟨x1,x2⟩:=v;rw [show optR (some (x1,x2))=((x1,x2),true) from rfl] at HDX;go_wp2_with fail;refine HDX.out.mono ?_;rintro e w6 ⟨rfl,hx⟩;have TX:=ae ((TW.out.grow hx).grow (Ext.alloc _ (.cells #[.int .i64 x1,.int .i64 x2] 43)));clear hx;by_cases hx0:x1<0
      ·go_wp2_with fail;go_ret;exact ⟨ag (by rw [HE3.out];exact (decide_eq_true hx0).symm),TX.out.all⟩
      ·go_wp2_with fail;go_ret;exact ⟨ag (by rw [HE3.out];rfl),TX.out.all⟩
set_option maxHeartbeats 4000000 in
theorem sL (h:LpC w a na ca b nb cb c nc cc A B C) (h':LrC w xa xn xc ya yn yc ra rn rc r) (ok:okLP A B C=true) :
 Calls Tryz.prog 199 #[lpW a na ca b nb cb c nc cc,lrW r xa xn xc ya yn yc ra rn rc] w fun e w'=>e=.returned (.bool (aD aK A B C r))/\Ext w w':=by
 by_cases h1:r.status=1
 ·exact qX h h' ok h1
 by_cases h2:r.status=2
 ·exact qY h h' ok h2
 by_cases h3:r.status=3
 ·exact qZ h h' ok h3
 have HE:=ae (show aD aK A B C r=false by unfold aD;rw [if_neg h1,if_neg h2,if_neg h3]);have T0:=ae (show Two w ((w.alloc (be a na ca b nb cb c nc cc)).alloc (bI r xa xn xc ya yn yc ra rn rc)) a na ca b nb cb c nc cc xa xn xc ya yn yc ra rn rc r A B C from ⟨Ext.refl _,(h.ext (Ext.alloc _ _)).ext (Ext.alloc _ _),(h'.ext (Ext.alloc _ _)).ext (Ext.alloc _ _)⟩);have HV:=ae (ee T0.out.lp);rw [ok] at HV;obtain ⟨st,rX,rY,rr,rv,rp⟩:=r;obtain ⟨v1,v2⟩:=rv;simp only at h1 h2 h3;have e1:(st == 1)=false:=by simp;omega
 have e2:(st == 2)=false:=by simp;omega
 have e3:(st == 3)=false:=by simp;omega
 clear h h' h1 h2 h3;go_enter Tryz.func199,Tryz.ntmps199
 go_wp2_with fail;refine HV.out.mono ?_;rintro e w1 ⟨rfl,hx⟩;have T1:=ae (T0.out.grow hx);obtain ⟨p0,p1,p2⟩:=T1.out.p;obtain ⟨q0,q1,q2,q3,q4,q5⟩:=T1.out.q;clear hx;go_wp2_with fail;go_ret;exact ⟨ag HE.out.symm,T1.out.all⟩
end
end Go.Proofs.YthjjfkeacobikaaGreat
namespace Go.Proofs.YthjjfkeacobikaaGreat
set_option maxRecDepth 100000
open Go.RowKit
theorem oN {α β:Type} (f:α->β) {l:List α} {k:Nat} {d:α} (h:k<l.length):(l.take k).map f++[f (l[k]?.getD d)]=(l.take (k+1)).map f:=by
 rw [List.take_succ_eq_append_getElem h,List.map_append,List.getElem?_eq_getElem h];rfl
theorem cQ {β:Type} (f:Nat->β) (k:Nat):(List.range k).map f++[f k]=(List.range (k+1)).map f:=by rw [List.range_succ];simp
theorem pA (m i:Nat):lY m i=(List.range m).map fun k=>if k=i then ((1:Int),(1:Int)) else (0,1):=rfl
section
variable {w:World} {a:Option Addr} {na ca:Nat} {b:Option Addr} {nb cb:Nat} {c:Option Addr} {nc cc:Nat} {A:List (List Int)} {B:List Int} {C:List (Int × Int)}
set_option maxHeartbeats 16000000 in
theorem ml (h:LpC w a na ca b nb cb c nc cc A B C) (ok:okLP A B C=true) :
 Calls Tryz.prog 248 #[lpW a na ca b nb cb c nc cc] w fun e w'=>(∃ va vb vs,e=.returned (.agg #[va,vb,.int .i64 (nc:Int)])/\OwnT w' w.heap.size va vb vs (bF A B nc))/\Ext w w':=by
 obtain ⟨r1,r2,r3,r4,r5,r6⟩:=cj h ok;subst r3;have hx0:=(Ext.alloc w (be a nb ca b nb cb c nc cc)).trans (Ext.alloc _ (.cells #[.slice none 0 0,.slice none 0 0,.int .i64 0] 83));obtain ⟨W,hW⟩:∃ W,W=(w.alloc (be a nb ca b nb cb c nc cc)).alloc (.cells #[.slice none 0 0,.slice none 0 0,.int .i64 0] 83):=⟨_,rfl⟩;rw [<-hW] at hx0;have HX0:=ae hx0;have H:=ae (h.ext hx0);have HV:=ae (ee H.out);rw [ok] at HV;have HGB:=ae (show W.heap[w.heap.size+1]?=some (.cells #[.slice none 0 0,.slice none 0 0,.int .i64 0] 83 (0,0)) by rw [hW];exact aj _ _ _ (by simp));have HTB:=ae (show W.heap[w.heap.size]?=some (.cells #[.slice a nb ca,.slice b nb cb,.slice c nc cc] 109 (0,0)) by rw [hW,bK _ _ _ (by simp)];exact aj _ _ _ rfl);have HSW:=ae (show W.heap.size=w.heap.size+1+1 by rw [hW];simp);have ha1:=h.a.hcap;have ha2:=h.a.hmax;have hb1:=h.b.hcap;have hb2:=h.b.hmax;have hc1:=h.c.hcap;have hc2:=h.c.hmax;have HLA:=ae h.a.hlen;have HLB:=ae h.b.hlen;have HR4:=ae r4;have HR5:=ae r5;have HR6:=ae r6;clear h hx0 ok r4 r5 r6;go_enter Tryz.func248,Tryz.ntmps248
 go_upto_region 1 with fail;rw [<-hW];clear hW;have p0:=aq HTB.out;have p1:=aw HTB.out;have p2:=az HTB.out;go_wp2_with fail;refine HV.out.mono ?_;rintro e w1 ⟨rfl,hx⟩;have X1:=ae hx;have H1:=ae (H.out.ext hx);clear hx p0 p1 p2;have P0:=ae (aq (X1.out.blk HTB.out));have P1:=ae (aw (X1.out.blk HTB.out));have P2:=ae (az (X1.out.blk HTB.out));have p2:=P2.out;have hs1:w.heap.size+1+1<=w1.heap.size:=by have:=X1.out.size;have:=HSW.out;omega
 obtain ⟨E,hE⟩:∃ E,E=w1.alloc (.cells #[.slice none 0 0,.slice none 0 0,.int .i64 (nc:Int)] 83):=⟨_,rfl⟩;have XE:=ae (show Ext w1 E by rw [hE];exact Ext.alloc _ _)
 have HT0:=ae (show TbO E w1.heap.size w1.heap.size (.slice none 0 0) (.slice none 0 0) (nc:Int) [] [] [] by
  rw [hE];exact ⟨aj _ _ _ rfl,Nat.le_refl _,World.ownsRow_nil _ _ _ 1,dh.nil _ _,OwnI.nil _ _⟩)
 go_upto_region 4 with fail;rw [<-hE];clear hE p2;have p0:=XE.out.cellSome P0.out;go_wp2_with fail
 go_loopg [23] nb (fun gk ii wr=>∃ (k:Nat) (va vb:Value) (vs:List Value),Hid (gk+k=nb)/\ii=.int .i64 (k:Int)/\Hid (TbO wr w1.heap.size w1.heap.size va vb (nc:Int) vs ((List.range k).map (cg A B)) ((List.range k).map fun i=>((nc+i:Nat):Int)))/\Hid (Ext w1 wr))
 case atStart=>exact ⟨0,_,_,_,ae (by omega),rfl,HT0,XE⟩
 case round =>
  obtain ⟨g1,h_g1⟩:∃ x,x=gk:=⟨_,rfl⟩;subst h_g1;obtain ⟨wr1,h_wr1⟩:∃ x,x=wr:=⟨_,rfl⟩;subst h_wr1;obtain ⟨k,va,vb,vs,HK,rfl,T,HX⟩:=hrel;clear p0;have hsr:=HX.out.size;by_cases hlt:k<nb
  ·obtain ⟨zb,zoff,ya,yn,yc,hza,hz0,hrow⟩:=(H1.out.ext HX.out).a.at hlt;subst hza;obtain rfl:yn=nc:=by rw [<-hrow.hlen];exact HR4.out k hlt
   have hy1:=hrow.hcap;have hy2:=hrow.hmax;obtain ⟨eb,eoff,hea,he0⟩:=H1.out.b.at hlt;subst hea;obtain ⟨bk,hbk⟩:∃ x,x=B[k]?.getD 0:=⟨_,rfl⟩;rw [<-hbk] at he0;have HE0:=ae he0;have HBK:=ae hbk;have hbb:-5000<=bk/\bk<=5000:=by
    rw [hbk,List.getElem?_eq_getElem (by rw [HLB.out];exact hlt)];exact HR6.out _ (List.getElem_mem _)
   obtain ⟨hbb0,hbb1⟩:=hbb;obtain ⟨sd,hsd⟩:∃ s,s=sideI bk:=⟨_,rfl⟩;have HSD:=ae hsd;have hsd0:(bk<0/\sd=-1) ∨ (¬ bk<0/\sd=1):=by rw [hsd];exact fc bk
   have hsb:-1<=sd/\sd<=1:=by omega
   obtain ⟨hsb0,hsb1⟩:=hsb;have p1:=HX.out.cellSome P1.out;have he1:=HX.out.cellSome HE0.out;have HROW:=ae hrow;clear hrow hbk hsd he0
   go_upto_if 33 with fail
   go_cut [6] (fun s6 wx=>s6=.int .i64 sd/\wr1=wx)
   case first =>
    rcases hsd0 with ⟨hneg,rfl⟩|⟨hneg,rfl⟩
    all_goals
     go_wp2_with fail;go_meet;exact ⟨rfl,rfl⟩
   obtain ⟨rfl,rfl⟩:=hcut;clear hsd0;have HO0:=ae (OwnR.made wr1 wr1.heap.size (Nat.le_refl _));go_wp2_with fail
   go_loopg [7,37] yn (fun gk oo ii wr=>∃ (j:Nat) (a1:Option Addr) (n1 q1:Nat),Hid (gk+j=yn)/\ii=.int .i64 (j:Int)/\oo=.slice a1 n1 q1/\Hid (OwnR wr wr1.heap.size (.slice a1 n1 q1) (((A[k]?.getD []).take j).map fun x=>(sd*x,(1:Int))))/\Hid (Ext wr1 wr))
   case atStart=>exact ⟨0,_,_,_,ae (by omega),rfl,rfl,HO0,ae (Ext.alloc _ _)⟩
   case round =>
    obtain ⟨g2,h_g2⟩:∃ x,x=gk:=⟨_,rfl⟩;subst h_g2;obtain ⟨wr2,h_wr2⟩:∃ x,x=wr:=⟨_,rfl⟩;subst h_wr2;obtain ⟨j,a1,n1,q1,HJ,rfl,rfl,HO1,HX1⟩:=hrel;clear p1 he1 hz0;by_cases hjl:j<yn
    ·obtain ⟨xb,xoff,hxa,hx0⟩:=(HROW.out.ext HX1.out).at hjl;subst hxa;obtain ⟨x,hx⟩:∃ x,x=(A[k]?.getD [])[j]?.getD 0:=⟨_,rfl⟩;rw [<-hx] at hx0;have HJL:=ae (show j<(A[k]?.getD []).length by rw [HR4.out k hlt];exact hjl);have hxb:-5000<=x/\x<=5000:=by
      rw [hx,List.getElem?_eq_getElem HJL.out];exact (HR5.out k hlt).2 _ (List.getElem_mem _)
     obtain ⟨hxb0,hxb1⟩:=hxb;have hm1:sd*x=x ∨ sd*x=-x ∨ sd*x=0:=by
      have:sd=-1 ∨ sd=0 ∨ sd=1:=by omega
      rcases this with h1|h1|h1 <;> subst h1 <;> omega
     have hm2:-5000<=sd*x/\sd*x<=5000:=by rcases hm1 with h1|h1|h1 <;> rw [h1] <;> omega
     obtain ⟨z,hz⟩:∃ z,z=sd*x:=⟨_,rfl⟩;have hwz2:wrap64 (sd*x)=z:=by rw [hz];unfold wrap64;omega
     have HSN:=ae (show ((A[k]?.getD []).take j).map (fun x=>(sd*x,(1:Int)))++[(z,1)]=((A[k]?.getD []).take (j+1)).map (fun x=>(sd*x,(1:Int))) by
      rw [hz,hx];exact oN (fun x=>(sd*x,(1:Int))) HJL.out)
     have HLL:=ae (show (((A[k]?.getD []).take j).map (fun x=>(sd*x,(1:Int)))).length=j by rw [List.length_map,List.length_take];have:=HJL.out;omega);clear hx hz hm1 hm2;go_wp2_with fail;rw [hwz2];clear hwz2;refine (cK z _).mono ?_;rintro e w3 ⟨rfl,hx⟩;have X3:=ae (HX1.out.trans hx);have HO3:=ae (HO1.out.ext hx);have hs3:=X3.out.size;clear hx
     go_wp2_with (first
      | (at_builtin;refine aG rfl _ _ rfl wr1.heap.size (.slice a1 n1 q1) _ rfl (HO3.out.ext (Ext.alloc _ _)) _ 1 _ [(z,1)] rfl (Rats.one' _ _ _ _ _ (by simp)) (by rw [HLL.out];omega) (by simp;omega) ?_;intro v5 w5 ho hg hnear;have X5:=ae (ak (X3.out.trans (Ext.alloc _ _)) hg (fun j hj=>(HO3.out.lt j hj).1));obtain ⟨a5,n5,p5,rfl,HN5⟩:=ho.var;have HO5:=ae ho;clear ho hg hnear))
     go_roundg (g2-1)
     case measure=>have:=HJ.out;omega
     case rel=>exact ⟨j+1,a5,n5,p5,ae (by have:=HJ.out;omega),by go_num,rfl,ae (by rw [<-HSN.out];exact HO5.out),X5⟩
    ·have hjn:yn=j:=by have:=HJ.out;omega
     have HT2:=ae (show OwnR wr2 wr1.heap.size (.slice a1 n1 q1) ((A[k]?.getD []).map (fun x=>(sd*x,(1:Int)))) by
      have h1:=HO1.out
      rw [List.take_of_length_le (by rw [HR4.out k hlt];omega)] at h1;exact h1)
     have HLN:=ae (show ((A[k]?.getD []).map (fun x=>(sd*x,(1:Int)))).length=yn by rw [List.length_map];exact HR4.out k hlt);have p0:=(HX.out.trans HX1.out).cellSome P0.out;have HJN:=ae hjn;clear hjn;go_wp2_with fail
     go_loopg [7,52] nb (fun gk oo ii wr=>∃ (i:Nat) (a1:Option Addr) (n1 q1:Nat),Hid (gk+i=nb)/\ii=.int .i64 (i:Int)/\oo=.slice a1 n1 q1/\Hid (OwnR wr wr1.heap.size (.slice a1 n1 q1) ((A[k]?.getD []).map (fun x=>(sd*x,(1:Int)))++(List.range i).map fun i=>if i=k then ((1:Int),(1:Int)) else (0,1)))/\Hid (Ext wr1 wr))
     case atStart=>exact ⟨0,_,_,_,ae (by omega),rfl,rfl,ae (by simpa using HT2.out),HX1⟩
     case round =>
      obtain ⟨g3,h_g3⟩:∃ x,x=gk:=⟨_,rfl⟩;subst h_g3;obtain ⟨wr3,h_wr3⟩:∃ x,x=wr:=⟨_,rfl⟩;subst h_wr3;obtain ⟨i,a3,n3,q3,HI,rfl,rfl,HO3,HX3⟩:=hrel;clear p0;by_cases hil:i<nb
      ·have HLL:=ae (show ((A[k]?.getD []).map (fun x=>(sd*x,(1:Int)))++(List.range i).map fun i=>if i=k then ((1:Int),(1:Int)) else (0,1)).length=yn+i by rw [List.length_append,HLN.out];simp);obtain ⟨un,hun⟩:∃ u:Int,u=if i=k then 1 else 0:=⟨_,rfl⟩
       have HSN:=ae (show (List.range i).map (fun i=>if i=k then ((1:Int),(1:Int)) else (0,1))++[(un,1)]=(List.range (i+1)).map fun i=>if i=k then ((1:Int),(1:Int)) else (0,1) by
        rw [<-cQ,hun];congr 2;split <;> rfl)
       have hik:((i:Int) == (k:Int))=decide (i=k):=by by_cases h:i=k <;> simp [h] <;> omega
       go_upto_if 57 with fail
       go_cut [11] (fun s11 wx=>s11=.int .i64 un/\wr3=wx)
       case first =>
        by_cases hikk:i=k
        ·have hu1:un=1:=by rw [hun,if_pos hikk]
         have hd:decide (i=k)=true:=decide_eq_true hikk;rw [hd];subst hu1;clear hun hikk hik hd;go_wp2_with fail;go_meet;exact ⟨rfl,rfl⟩
        ·have hu1:un=0:=by rw [hun,if_neg hikk]
         have hd:decide (i=k)=false:=decide_eq_false hikk;rw [hd];subst hu1;clear hun hikk hik hd;go_wp2_with fail;go_meet;exact ⟨rfl,rfl⟩
       obtain ⟨rfl,rfl⟩:=hcut;clear hun hik;go_wp2_with fail;refine (cK un _).mono ?_;rintro e w3 ⟨rfl,hx⟩;have X3:=ae (HX3.out.trans hx);have HO4:=ae (HO3.out.ext hx);have hs3:=X3.out.size;clear hx
       go_wp2_with (first
        | (at_builtin;refine aG rfl _ _ rfl wr1.heap.size (.slice a3 n3 q3) _ rfl (HO4.out.ext (Ext.alloc _ _)) _ 1 _ [(un,1)] rfl (Rats.one' _ _ _ _ _ (by simp)) (by rw [HLL.out];omega) (by simp;omega) ?_;intro v5 w5 ho hg hnear;have X5:=ae (ak (X3.out.trans (Ext.alloc _ _)) hg (fun j hj=>(HO4.out.lt j hj).1));obtain ⟨a5,n5,p5,rfl,HN5⟩:=ho.var;have HO5:=ae ho;clear ho hg hnear))
       go_roundg (g3-1)
       case measure=>have:=HI.out;omega
       case rel=>exact ⟨i+1,a5,n5,p5,ae (by have:=HI.out;omega),by go_num,rfl,ae (by have:=HO5.out;rw [List.append_assoc,HSN.out] at this;exact this),X5⟩
      ·have hin:i=nb:=by have:=HI.out;omega
       subst hin;obtain ⟨z2,hz2⟩:∃ z,z=sd*bk:=⟨_,rfl⟩;have hm1:sd*bk=bk ∨ sd*bk=-bk ∨ sd*bk=0:=by
        have:sd=-1 ∨ sd=0 ∨ sd=1:=by omega
        rcases this with h1|h1|h1 <;> subst h1 <;> omega
       have hwr:IntKind.i64.wrap (sd*bk)=z2:=by
        rw [IntKind.wrap_i64,hz2];rcases hm1 with h1|h1|h1 <;> rw [h1] <;> omega
       have HRE:=ae (show ((A[k]?.getD []).map (fun x=>(sd*x,(1:Int)))++(List.range i).map fun i=>if i=k then ((1:Int),(1:Int)) else (0,1))++[(z2,1)]=cg A B k by
        unfold cg;rw [<-HBK.out,<-HSD.out,hz2,HLA.out,pA])
       have HLL:=ae (show ((A[k]?.getD []).map (fun x=>(sd*x,(1:Int)))++(List.range i).map fun i=>if i=k then ((1:Int),(1:Int)) else (0,1)).length=yn+i by rw [List.length_append,HLN.out];simp);have HVL:=ae (show vs.length=k by rw [T.out.rows.len];simp);have t0:=aq T.out.box;have p1:=HX.out.cellSome P1.out;have he1:=HX.out.cellSome HE0.out;have hk0:(0:Int)<=(k:Int):=by omega
       have hk1:(k:Int)<(i:Int):=by omega
       clear hz2 hm1;go_upto_region 24 with fail;have hk3:Ext wr3 wr3.drew:=Ext.drew wr3;have hk2:Ext wr1 wr3.drew:=HX3.out.trans hk3;have HKEEP:=ae (fun (w':World) (h:Ext wr1 w')=>(⟨h.cellSome t0,h.cellSome p1,h.cellSome he1,HX.out.trans h⟩:w'.cell? ⟨w1.heap.size,0,none⟩=some va/\w'.cell? ⟨w.heap.size,1,none⟩=some (.slice (some ⟨eb,eoff,none⟩) i cb)/\w'.cell? ⟨eb,eoff+k,none⟩=some (.int .i64 bk)/\Ext w1 w'));refine cz (M:=[16]) (S:=fun w'=>w'.cell? ⟨w1.heap.size,0,none⟩=some va/\w'.cell? ⟨w.heap.size,1,none⟩=some (.slice (some ⟨eb,eoff,none⟩) i cb)/\w'.cell? ⟨eb,eoff+k,none⟩=some (.int .i64 bk)/\Ext w1 w') (by kernel_rfl) ?_;have hHeld:=HKEEP.out _ hk2;refine lp 0 ?_;refine ll 1 ?_;refine lp 2 ?_;refine lp 3 ?_;refine lp 4 ?_;refine ll 5 ?_;refine lp 6 ?_;refine lp 7 ?_;refine ll 8 ?_;refine lp 9 ?_;refine aJ (i:=10) (oi:=?_) ?_ ?_ ?_ (fun K hK=>?_);rotate_left
       ·simp only [gA,gB,gC];rfl
       ·kernel_rfl
       ·kernel_rfl
       go_simp;go_at_call 112;refine (cK _ _).mono ?_;rintro e w5 ⟨rfl,hx5⟩;have hk3:Ext wr3 w5:=hk3.trans hx5;have hk2:Ext wr1 w5:=hk2.trans hx5;have hs5:=hk2.size;go_wp2_with fail;refine hK.out _ _ (fun _=>HKEEP.out _ hk2) ?_;have hHeld:=HKEEP.out _ hk2;clear hK K
       try simp only [Act.put,sA,sB,sC]
       refine aJ (i:=11) (oi:=?_) ?_ ?_ ?_ (fun K hK=>?_);rotate_left
       ·simp only [gA,gB,gC];rfl
       ·kernel_rfl
       ·kernel_rfl
       go_simp;refine hK.out _ _ (fun _=>HKEEP.out _ (hk2.trans (Ext.alloc _ _))) ?_;clear hK K
       try simp only [Act.put,sA,sB,sC]
       refine aJ (i:=12) (oi:=?_) ?_ ?_ ?_ (fun K hK=>?_);rotate_left
       ·simp only [gA,gB,gC];rfl
       ·kernel_rfl
       ·kernel_rfl
       refine cH _ _ (by rfl) wr1.heap.size (.slice a3 n3 q3) _ (by rfl) ((HO3.out.ext hk3).ext (Ext.alloc _ _)) _ 1 _ [(z2,1)] (by rfl) (Rats.one' _ _ _ _ _ rfl) (by rw [HLL.out];omega) (by simp;omega) ?_;intro v6 w6 ho hg hnear;obtain ⟨a6,n6,q6,rfl,HN6⟩:=ho.var;have HO6:=ae ho;have hk6:Ext wr1 w6:=ak (hk2.trans (Ext.alloc _ _)) hg (fun j hj=>(HO3.out.lt j hj).1);have hs6:=hk6.size;clear ho hg hnear;refine hK.out _ _ (fun _=>HKEEP.out _ hk6) ?_;have hHeld:=HKEEP.out _ hk6;clear hK K
       try simp only [Act.put,sA,sB,sC]
       refine aJ (i:=13) (oi:=?_) ?_ ?_ ?_ (fun K hK=>?_);rotate_left
       ·simp only [gA,gB,gC];rfl
       ·kernel_rfl
       ·kernel_rfl
       go_simp;refine hK.out _ _ (fun _=>HKEEP.out _ (hk6.trans (Ext.alloc _ _))) ?_;clear hK K
       try simp only [Act.put,sA,sB,sC]
       refine aJ (i:=14) (oi:=?_) ?_ ?_ ?_ (fun K hK=>?_);rotate_left
       ·simp only [gA,gB,gC];rfl
       ·kernel_rfl
       ·kernel_rfl
       refine ez _ _ (by rfl) w1.heap.size va vs (by rfl) ((T.out.a.ext hk6).ext (Ext.alloc _ _)) _ _ 1 (by rfl) (by simp;rfl) rfl (by rw [HVL.out];omega) (by simp;omega) ?_;intro v7 w7 ho hg hnear;obtain ⟨a7,n7,q7,rfl,HN7⟩:=ho.var;have HO7:=ae ho;have HG7:=ae hg;have hbx:=T.out.boxA (hk6.trans (Ext.alloc _ _)) hg;have c07:=aq hbx;have cf7:=cU hbx;have hX7:Ext w1 w7:=ak ((HX.out.trans hk6).trans (Ext.alloc _ _)) hg (fun j hj=>(T.out.a.lt j hj).1);clear ho hg hnear hbx;refine hK.out _ _ (fun _=>And.intro c07 (And.intro (hX7.cellSome P1.out) (And.intro (hX7.cellSome HE0.out) hX7))) ?_;have hHeld:=And.intro c07 (And.intro (hX7.cellSome P1.out) (And.intro (hX7.cellSome HE0.out) hX7));clear hK K
       try simp only [Act.put,sA,sB,sC]
       refine lp 15 ?_;refine cV (i:=16) (oi:=?_) (w':=?_) ?_ ?_ ?_ ?_ ?_ ?_ ?_;rotate_left 2
       ·simp only [gA,gB,gC];rfl
       ·kernel_rfl
       ·kernel_rfl
       ·exact of_decide_eq_true (by kernel_rfl)
       ·rfl
       ·go_simp;(try with_reducible rfl)
       try simp only [Act.put,sA,sB,sC]
       refine cW (by kernel_rfl) ?_ _;have HT8:=ae (T.out.pushA (hk6.trans (Ext.alloc _ _)) (HO6.out.ext (Ext.alloc _ _)) hsr HG7.out HO7.out);have HX8:=ae (hX7.setCell (p:=⟨w1.heap.size,0,none⟩) (Nat.le_refl _) (.slice a7 n7 q7));obtain ⟨W8,hW8⟩:∃ x,x=w7.setCell ⟨w1.heap.size,0,none⟩ (.slice a7 n7 q7):=⟨_,rfl⟩;rw [<-hW8] at HT8 HX8;go_upto_region 25 with fail;rw [<-hW8];clear hW8 c07 cf7 hHeld;have b1:=aw HT8.out.box;have b2:=az HT8.out.box;have bf:=cU HT8.out.box;have hl8:=lt_of_block HT8.out.box;have HVB:=ae (show ((List.range k).map fun i=>((yn+i:Nat):Int)).length=k by simp)
       go_wp2_with (first
        | (at_builtin;refine bm rfl _ _ rfl w1.heap.size vb _ rfl (HT8.out.b.ext (Ext.alloc _ _)) _ 1 _ [(yn:Int)+(k:Int)] rfl (Ints.oneS _ _ _ _ (by simp)) (by rw [HVB.out];omega) (by simp;omega) ?_;intro v9 w9 ho hg hnear;obtain ⟨a9,n9,q9,rfl,HN9⟩:=ho.var;have HO9:=ae ho;have HG9:=ae hg;have hbx:=HT8.out.boxB (Ext.alloc _ _) hg;have c09:=aw hbx;have cf9:=cU hbx;have hX9:Ext w1 w9:=ak (Ext.trans HX8.out (Ext.alloc _ _)) hg (fun j hj=>(HT8.out.b.lt j hj).1);clear ho hg hnear hbx))
       have HT9:=ae (HT8.out.pushB (Ext.alloc _ _) HG9.out HO9.out);have HXN:=ae (hX9.setCell (p:=⟨w1.heap.size,1,none⟩) (Nat.le_refl _) (.slice a9 n9 q9))
       go_roundg (g1-1)
       case measure=>have:=HK.out;omega
       case rel=>exact ⟨k+1,_,_,_,ae (by have:=HK.out;omega),by go_num,ae (by
        have h1:=HT9.out;rw [HRE.out,cQ] at h1;have h2:((List.range k).map fun i=>((yn+i:Nat):Int))++[(yn:Int)+(k:Int)]=(List.range (k+1)).map fun i=>((yn+i:Nat):Int):=by
         rw [<-cQ];simp
        rw [h2] at h1
        exact h1),HXN⟩
  ·have hkn:nb=k:=by have:=HK.out;omega
   subst hkn;have HTN:=ae (show OwnT wr1 w1.heap.size va vb vs (bF A B nc) by have:=T.out.own;unfold bF;rw [HLA.out];exact this);have t0:=aq T.out.box;have t1:=aw T.out.box;have t2:=az T.out.box;obtain ⟨a7,n7,c7,rfl,HN7⟩:=T.out.a.var;obtain ⟨a8,n8,c8,rfl,HN8⟩:=T.out.b.var;have xw:=X1.out.trans HX.out;have r0:=aq (xw.blk HGB.out);have r1:=aw (xw.blk HGB.out);have r2:=az (xw.blk HGB.out);have rf:=cU (xw.blk HGB.out);have XW:=ae xw;clear xw;go_wp2_with fail;refine bodyPost_ret (v:=.agg #[.slice a7 n7 c7,.slice a8 n8 c8,.int .i64 (nc:Int)]) (by simp [results,Tryz.results248,go_sem,r0,r1,r2,rf]) rfl ⟨⟨_,_,vs,rfl,?_⟩,(HX0.out.trans XW.out).set3 (Nat.le_succ _) _ _ _⟩;exact (HTN.out.keepAll fun k hk=>cG _ _ _ _ _ _ (by omega)).mono (by omega)
end
end Go.Proofs.YthjjfkeacobikaaGreat
