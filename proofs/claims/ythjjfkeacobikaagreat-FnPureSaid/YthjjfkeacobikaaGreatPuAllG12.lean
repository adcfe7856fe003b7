import Derived.Test.YthjjfkeacobikaaGreatPuAllG11
import Derived.Test.YthjjfkeacobikaaGreatPuAllG8
import Derived.Deep.DeepCutAuto
import Derived.Outline
import Derived.Test.YthjjfkeacobikaaGreatPuAllG3
import Derived.Test.YthjjfkeacobikaaGreatPuAllG4
set_option linter.unusedVariables false
set_option linter.unusedSimpArgs false
namespace Go.Proofs.YthjjfkeacobikaaGreat
set_option maxRecDepth 100000
open Go.RowKit
section
variable {w:World} {a:Option Addr} {na ca:Nat} {b:Option Addr} {nb cb:Nat} {c:Option Addr} {nc cc:Nat} {A:List (List Int)} {B:List Int} {C:List (Int × Int)}
 {xa:Option Addr} {xn xc:Nat} {ya:Option Addr} {yn yc:Nat} {ra:Option Addr} {rn rc:Nat} {r:LpR}
def optS (A:List (List Int)) (B:List Int) (C:List (Int × Int)) (r:LpR):Bool:=dt A B C.length r.X&&(decide (r.Y.length=B.length)&&((List.range C.length).all (aX A r.Y C)&&gl B C r))
set_option maxHeartbeats 16000000 in
theorem nv (h:LpC w a na ca b nb cb c nc cc A B C) (h':LrC w xa xn xc ya yn yc ra rn rc r) (ok:okLP A B C=true) :
 Calls Tryz.prog 230 #[lpW a na ca b nb cb c nc cc,lrW r xa xn xc ya yn yc ra rn rc] w fun e w'=>e=.returned (.bool (optS A B C r))/\Ext w w':=by
 obtain ⟨r1,r2,r3,r4,r5,r6⟩:=cg h ok;subst r3;have T0:=ae (show Two w ((w.alloc (bm a nb ca b nb cb c nc cc)).alloc (bS r xa xn xc ya yn yc ra rn rc)) a nb ca b nb cb c nc cc xa xn xc ya yn yc ra rn rc r A B C from ⟨Ext.refl _,(h.ext (Ext.alloc _ _)).ext (Ext.alloc _ _),(h'.ext (Ext.alloc _ _)).ext (Ext.alloc _ _)⟩);have hy1:=h'.y.hcap;have hy2:=h'.y.hmax;have hc1:=h.c.hcap;have hc2:=h.c.hmax;have hb1:=h.b.hcap;have hb2:=h.b.hmax;have HOK:=ae ok;have HFB6:=ae (em r6);obtain ⟨st,rX,rY,rr,rv,rp⟩:=r;obtain ⟨v1,v2⟩:=rv;have HLY:=ae h'.y.hlen;obtain ⟨fv,hfv⟩:∃ f,f=dt A B C.length rX:=⟨_,rfl⟩
 have HE:=ae (show optS A B C ⟨st,rX,rY,rr,(v1,v2),rp⟩=(fv&&(decide (yn=nb)&&((List.range C.length).all (aX A rY C)&&gl B C ⟨st,rX,rY,rr,(v1,v2),rp⟩))) by
  unfold optS;rw [hfv,h.b.hlen];simp only;rw [show rY.length=yn from h'.y.hlen])
 have HF:=ae (fun (W:World) (t:Two w W a nb ca b nb cb c nc cc xa xn xc ya yn yc ra rn rc ⟨st,rX,rY,rr,(v1,v2),rp⟩ A B C)=>iw t.lp HOK.out t.lr.x);simp only [<-hfv] at HF;obtain ⟨dv,hdv⟩:∃ d,d=(List.range C.length).all (aX A rY C):=⟨_,rfl⟩;have HD:=ae (fun (W:World) (t:Two w W a nb ca b nb cb c nc cc xa xn xc ya yn yc ra rn rc ⟨st,rX,rY,rr,(v1,v2),rp⟩ A B C)=>mJ t.lp HOK.out t.lr.y t.lp.c (Nat.le_refl _));simp only [<-hdv] at HD;rw [<-hdv] at HE;clear h h' ok r4 r5 r6 hfv hdv;obtain ⟨V,hV⟩:∃ v,v=optS A B C ⟨st,rX,rY,rr,(v1,v2),rp⟩:=⟨_,rfl⟩;rw [<-hV];have HE1:=ae (hV.trans HE.out);clear hV HE;cases fv
 ·have HZ:=ae (show false=V by rw [HE1.out];rfl);go_enter Tryz.func230,Tryz.ntmps230
  obtain ⟨p0,p1,p2⟩:=T0.out.p;obtain ⟨q0,q1,q2,q3,q4,q5⟩:=T0.out.q;go_wp2_with fail;refine (HF.out _ T0.out).mono ?_;rintro e w1 ⟨rfl,hx⟩;have T1:=ae (T0.out.grow hx);clear hx p0 p1 p2 q0 q1 q2 q3 q4 q5;go_wp2_with fail;go_ret;exact ⟨ag HZ.out,T1.out.all⟩
 ·by_cases hyn:yn=nb
  ·subst hyn;have hne:((yn:Int) != (yn:Int))=false:=by simp
   cases dv
   ·have HZ:=ae (show false=V by rw [HE1.out];simp);go_enter Tryz.func230,Tryz.ntmps230
    obtain ⟨p0,p1,p2⟩:=T0.out.p;obtain ⟨q0,q1,q2,q3,q4,q5⟩:=T0.out.q;go_wp2_with fail;refine (HF.out _ T0.out).mono ?_;rintro e w1 ⟨rfl,hx⟩;have T1:=ae (T0.out.grow hx);clear hx p0 p1 p2 q0 q1 q2 q3 q4 q5;obtain ⟨p0,p1,p2⟩:=T1.out.p;obtain ⟨q0,q1,q2,q3,q4,q5⟩:=T1.out.q;go_wp2_with fail;refine (HD.out _ T1.out).mono ?_;rintro e w2 ⟨rfl,hx⟩;have T2:=ae (T1.out.grow hx);clear hx p0 p1 p2 q0 q1 q2 q3 q4 q5;go_wp2_with fail;go_ret;exact ⟨ag HZ.out,T2.out.all⟩
   ·obtain ⟨dx,hdx⟩:∃ d,d=dotL C rX:=⟨_,rfl⟩;obtain ⟨dy,hdy⟩:∃ d,d=dotL (aw B) rY:=⟨_,rfl⟩
    have HM:=ae (show V=gX dx dy (v1,v2) by
     rw [HE1.out,hdx,hdy];simp only [Bool.true_and,decide_true];rw [mo];simp only;rw [fZ rY])
    have HDX:=ae (fun (W:World) (t:Two w W a yn ca b yn cb c nc cc xa xn xc ya yn yc ra rn rc ⟨st,rX,rY,rr,(v1,v2),rp⟩ A B C)=>jn t.lp.c t.lr.x);have HDY:=ae (fun (W:World) (t:Two w W a yn ca b yn cb c nc cc xa xn xc ya yn yc ra rn rc ⟨st,rX,rY,rr,(v1,v2),rp⟩ A B C)=>iI t.lp.b HFB6.out (by omega) t.lr.y);simp only [<-hdx] at HDX;simp only [<-hdy] at HDY;clear hdx hdy;obtain ⟨x1,x2,xok,hxx⟩:∃ x1 x2 xok,optR dx=((x1,x2),xok):=⟨_,_,_,rfl⟩;obtain ⟨y1,y2,yok,hyy⟩:∃ y1 y2 yok,optR dy=((y1,y2),yok):=⟨_,_,_,rfl⟩;have HXX:=ae hxx;have HYY:=ae hyy;simp only [hxx] at HDX;simp only [hyy] at HDY;clear hxx hyy;go_enter Tryz.func230,Tryz.ntmps230
    obtain ⟨p0,p1,p2⟩:=T0.out.p;obtain ⟨q0,q1,q2,q3,q4,q5⟩:=T0.out.q;go_wp2_with fail;refine (HF.out _ T0.out).mono ?_;rintro e w1 ⟨rfl,hx⟩;have T1:=ae (T0.out.grow hx);clear hx p0 p1 p2 q0 q1 q2 q3 q4 q5;obtain ⟨p0,p1,p2⟩:=T1.out.p;obtain ⟨q0,q1,q2,q3,q4,q5⟩:=T1.out.q;go_wp2_with fail;refine (HD.out _ T1.out).mono ?_;rintro e w2 ⟨rfl,hx⟩;have T2:=ae (T1.out.grow hx);clear hx p0 p1 p2 q0 q1 q2 q3 q4 q5;obtain ⟨p0,p1,p2⟩:=T2.out.p;obtain ⟨q0,q1,q2,q3,q4,q5⟩:=T2.out.q;go_wp2_with fail;refine (HDX.out _ T2.out).mono ?_;rintro e w3 ⟨rfl,hx⟩;obtain ⟨E,hE⟩:∃ E,E=w3.alloc (.cells #[.int .i64 x1,.int .i64 x2] 43):=⟨_,rfl⟩;obtain ⟨gx,hgx⟩:∃ g,g=w3.heap.size:=⟨_,rfl⟩;have hxE:Ext w3 E:=by rw [hE];exact Ext.alloc _ _
    have TE:=ae ((T2.out.grow hx).grow hxE);have HB0:=ae (show ah w3 E gx x1 x2 by rw [hE,hgx];exact ah.new (Ext.refl _) _ _);go_upto_region 4 with fail;rw [<-hE,<-hgx];clear hE hxE hx hgx p0 p1 p2 q0 q1 q2 q3 q4 q5;obtain ⟨p0,p1,p2⟩:=TE.out.p;obtain ⟨q0,q1,q2,q3,q4,q5⟩:=TE.out.q;go_wp2_with fail;refine (HDY.out _ TE.out).mono ?_;rintro e w4 ⟨rfl,hx⟩;obtain ⟨F,hF⟩:∃ F,F=w4.alloc (.cells #[.int .i64 y1,.int .i64 y2] 43):=⟨_,rfl⟩;obtain ⟨gy,hgy⟩:∃ g,g=w4.heap.size:=⟨_,rfl⟩;have hxF:Ext w4 F:=by rw [hF];exact Ext.alloc _ _
    have TW:=ae ((TE.out.grow hx).grow hxF);have HB2:=ae (HB0.out.grow (hx.trans hxF));have HB1:=ae (show ah w4 F gy y1 y2 by rw [hF,hgy];exact ah.new (Ext.refl _) _ _);go_upto_region 5 with fail;rw [<-hF,<-hgy];clear hF hxF hx hgy p0 p1 p2 q0 q1 q2 q3 q4 q5;obtain ⟨p0,p1,p2⟩:=TW.out.p;obtain ⟨q0,q1,q2,q3,q4,q5⟩:=TW.out.q;have c0:=HB2.out.c0;have c1:=HB2.out.c1;have g0:=HB1.out.c0;have g1':=HB1.out.c1;cases dx with
    | none =>
      have hdk:xok=false:=by have:=HXX.out;simp only [optR] at this;simpa using (congrArg Prod.snd this).symm
      subst hdk;go_wp2_with fail;go_ret;exact ⟨ag (by rw [HM.out,(gY _ _).1]),TW.out.all⟩
    | some xv =>
      have hdk:xok=true:=by have:=HXX.out;simp only [optR] at this;simpa using (congrArg Prod.snd this).symm
      have hdv2:xv=(x1,x2):=by have:=HXX.out;simp only [optR] at this;simpa using congrArg Prod.fst this
      subst hdk hdv2;cases dy with
      | none =>
        have hdk:yok=false:=by have:=HYY.out;simp only [optR] at this;simpa using (congrArg Prod.snd this).symm
        subst hdk;go_wp2_with fail;go_ret;exact ⟨ag (by rw [HM.out,(gY _ _).2]),TW.out.all⟩
      | some yv =>
        have hdk:yok=true:=by have:=HYY.out;simp only [optR] at this;simpa using (congrArg Prod.snd this).symm
        have hdv2:yv=(y1,y2):=by have:=HYY.out;simp only [optR] at this;simpa using congrArg Prod.fst this
        subst hdk hdv2;have HM2:=ae (show V=(((x1 == y1)&&(x2 == y2))&&((x1 == v1)&&(x2 == v2))) by rw [HM.out,jP]);cases h1:(x1 == y1)
        all_goals
         cases h2:(x2 == y2)
        all_goals
         have HM3:=ae HM2.out;rw [h1,h2] at HM3
        all_goals try (
         have HF:=ae (show V=false by rw [HM3.out];rfl);go_wp2_with fail;go_ret
         exact ⟨ag HF.out.symm,TW.out.all⟩)
        cases h3:(x1 == v1)
        all_goals
         cases h4:(x2 == v2)
        all_goals
         rw [h3,h4] at HM3;go_wp2_with fail;go_ret;exact ⟨ag (by rw [HM3.out];rfl),TW.out.all⟩
  ·have hne:((yn:Int) != (nb:Int))=true:=by simp;omega
   have HZ:=ae (show false=V by rw [HE1.out,decide_eq_false hyn];rfl);go_enter Tryz.func230,Tryz.ntmps230
   obtain ⟨p0,p1,p2⟩:=T0.out.p;obtain ⟨q0,q1,q2,q3,q4,q5⟩:=T0.out.q;go_wp2_with fail;refine (HF.out _ T0.out).mono ?_;rintro e w1 ⟨rfl,hx⟩;have T1:=ae (T0.out.grow hx);clear hx p0 p1 p2 q0 q1 q2 q3 q4 q5;obtain ⟨p0,p1,p2⟩:=T1.out.p;obtain ⟨q0,q1,q2,q3,q4,q5⟩:=T1.out.q;go_wp2_with fail;go_ret;exact ⟨ag HZ.out,T1.out.all⟩
end
end Go.Proofs.YthjjfkeacobikaaGreat
namespace Go.Proofs.YthjjfkeacobikaaGreat
set_option maxRecDepth 100000
open Go.RowKit
theorem pd {v:Int × Int} (hv:valR v=true):decide (0<=cmpR (0,1) v)=decide (v.1<=0):=by
 have hb:=bh hv;unfold cmpR;rw [if_pos (by rw [hv];decide)];simp only;by_cases h:v.1<=0
 ·rw [if_neg (by omega),decide_eq_true h]
  split <;> rfl
 ·rw [if_pos (by omega),decide_eq_false h];rfl
theorem nl (A:List (List Int)) (Y:List (Int × Int)) {n:Nat} {D:List (Int × Int)} (hD:∀ j,j<n->D[j]?.getD (0,0)=(0,1)):(List.range n).all (aX A Y D)=(List.range n).all (noF A Y):=by
 rw [Bool.eq_iff_iff,List.all_eq_true,List.all_eq_true];have key:∀ j,j<n->aX A Y D j=noF A Y j:=by
  intro j hj;unfold aX noF noO;rw [hD j hj];cases hd:dotL Y (aw (colL A j)) with
  | none=>rfl
  | some v=>exact pd (ed hd).2.1
 constructor
 ·intro h j hj;rw [<-key j (List.mem_range.1 hj)];exact h j hj
 ·intro h j hj;rw [key j (List.mem_range.1 hj)];exact h j hj
theorem mw {n j:Nat} (h:j<n):(List.replicate n ((0:Int),(1:Int)))[j]?.getD (0,0)=(0,1):=by rw [List.getElem?_replicate,if_pos h];rfl
section
variable {w:World} {a:Option Addr} {na ca:Nat} {b:Option Addr} {nb cb:Nat} {c:Option Addr} {nc cc:Nat} {A:List (List Int)} {B:List Int} {C:List (Int × Int)}
 {xa:Option Addr} {xn xc:Nat} {ya:Option Addr} {yn yc:Nat} {ra:Option Addr} {rn rc:Nat} {r:LpR}
set_option maxHeartbeats 16000000 in
theorem oM (h:LpC w a na ca b nb cb c nc cc A B C) (h':LrC w xa xn xc ya yn yc ra rn rc r) (ok:okLP A B C=true) (hs:r.status=1) :
 Calls Tryz.prog 162 #[lpW a na ca b nb cb c nc cc,lrW r xa xn xc ya yn yc ra rn rc] w fun e w'=>e=.returned (.bool (aH aX A B C r))/\Ext w w':=by
 obtain ⟨r1,r2,r3,r4,r5,r6⟩:=cg h ok;subst r3;have T0:=ae (show Two w ((w.alloc (bm a nb ca b nb cb c nc cc)).alloc (bS r xa xn xc ya yn yc ra rn rc)) a nb ca b nb cb c nc cc xa xn xc ya yn yc ra rn rc r A B C from ⟨Ext.refl _,(h.ext (Ext.alloc _ _)).ext (Ext.alloc _ _),(h'.ext (Ext.alloc _ _)).ext (Ext.alloc _ _)⟩);have hy1:=h'.y.hcap;have hy2:=h'.y.hmax;have hr1:=h'.ray.hcap;have hr2:=h'.ray.hmax;have hc1:=h.c.hcap;have hc2:=h.c.hmax;have hb1:=h.b.hcap;have hb2:=h.b.hmax;have HOK:=ae ok;have HFB6:=ae (em r6);have HR5:=ae r5;obtain ⟨st,rX,rY,rr,rv,rp⟩:=r;obtain ⟨v1,v2⟩:=rv;simp only at hs;subst hs;have HLY:=ae h'.y.hlen;have HLB:=ae h.b.hlen;have HLC:=ae h.c.hlen;have HLR:=ae h'.ray.hlen;have HV:=ae (dA T0.out.lp);rw [ok] at HV;obtain ⟨V,hV⟩:∃ v,v=aH aX A B C ⟨1,rX,rY,rr,(v1,v2),rp⟩:=⟨_,rfl⟩;rw [<-hV];have HVE:=ae (show V=optS A B C ⟨1,rX,rY,rr,(v1,v2),rp⟩ by rw [hV];unfold aH optS;rw [if_pos rfl]);have HOP:=ae (fun (W:World) (t:Two w W a nb ca b nb cb c nc cc xa xn xc ya yn yc ra rn rc ⟨1,rX,rY,rr,(v1,v2),rp⟩ A B C)=>nv t.lp t.lr HOK.out);simp only [<-HVE.out] at HOP;clear h h' ok r4 r5 r6;clear hV;go_enter Tryz.func162,Tryz.ntmps162
 obtain ⟨p0,p1,p2⟩:=T0.out.p;obtain ⟨q0,q1,q2,q3,q4,q5⟩:=T0.out.q;go_wp2_with fail;refine HV.out.mono ?_;rintro e w1 ⟨rfl,hx⟩;have T1:=ae (T0.out.grow hx);clear hx p0 p1 p2 q0 q1 q2 q3 q4 q5;obtain ⟨p0,p1,p2⟩:=T1.out.p;obtain ⟨q0,q1,q2,q3,q4,q5⟩:=T1.out.q;have T1F:=ae (T1.out.ext.cellSome (v:=.int .i64 rp) (a:=⟨w.heap.size+1,6,none⟩) (by simp));have q6:=T1F.out;go_wp2_with fail;refine (HOP.out _ T1.out).mono ?_;rintro e w2 ⟨rfl,hx⟩;have T2:=ae (T1.out.grow hx);clear hx p0 p1 p2 q0 q1 q2 q3 q4 q5 q6;go_wp2_with fail;go_ret;exact ⟨rfl,T2.out.all⟩
set_option maxHeartbeats 16000000 in
theorem oN (h:LpC w a na ca b nb cb c nc cc A B C) (h':LrC w xa xn xc ya yn yc ra rn rc r) (ok:okLP A B C=true) (hs:r.status=2) :
 Calls Tryz.prog 162 #[lpW a na ca b nb cb c nc cc,lrW r xa xn xc ya yn yc ra rn rc] w fun e w'=>e=.returned (.bool (aH aX A B C r))/\Ext w w':=by
 obtain ⟨r1,r2,r3,r4,r5,r6⟩:=cg h ok;subst r3;have T0:=ae (show Two w ((w.alloc (bm a nb ca b nb cb c nc cc)).alloc (bS r xa xn xc ya yn yc ra rn rc)) a nb ca b nb cb c nc cc xa xn xc ya yn yc ra rn rc r A B C from ⟨Ext.refl _,(h.ext (Ext.alloc _ _)).ext (Ext.alloc _ _),(h'.ext (Ext.alloc _ _)).ext (Ext.alloc _ _)⟩);have hy1:=h'.y.hcap;have hy2:=h'.y.hmax;have hr1:=h'.ray.hcap;have hr2:=h'.ray.hmax;have hc1:=h.c.hcap;have hc2:=h.c.hmax;have hb1:=h.b.hcap;have hb2:=h.b.hmax;have HOK:=ae ok;have HFB6:=ae (em r6);have HR5:=ae r5;obtain ⟨st,rX,rY,rr,rv,rp⟩:=r;obtain ⟨v1,v2⟩:=rv;simp only at hs;subst hs;have HLY:=ae h'.y.hlen;have HLB:=ae h.b.hlen;have HLC:=ae h.c.hlen;have HLR:=ae h'.ray.hlen;have HV:=ae (dA T0.out.lp);rw [ok] at HV;obtain ⟨V,hV⟩:∃ v,v=aH aX A B C ⟨2,rX,rY,rr,(v1,v2),rp⟩:=⟨_,rfl⟩;rw [<-hV];obtain ⟨dv,hdv⟩:∃ d,d=(List.range C.length).all (aX A rY (List.replicate nc (0,1))):=⟨_,rfl⟩;obtain ⟨dy,hdy⟩:∃ d,d=dotL (aw B) rY:=⟨_,rfl⟩
 have HVE:=ae (show V=(decide (yn=nb)&&(dv&&posO dy)) by
  rw [hV,hdv,hdy];unfold aH;rw [if_neg (by simp),if_pos rfl];simp only;rw [jT,HLB.out,show rY.length=yn from HLY.out,fZ rY,nl A rY (fun j hj=>mw (by rw [<-HLC.out];exact hj))])
 have HDU:=ae (fun (W:World) (t:Two w W a nb ca b nb cb c nc cc xa xn xc ya yn yc ra rn rc ⟨2,rX,rY,rr,(v1,v2),rp⟩ A B C) (za:Option Addr) (zn zc:Nat) (hz:Rats W za zn zc (List.replicate nc (0,1))) (hzn:nc<=zn)=>mJ t.lp HOK.out t.lr.y hz hzn);have HDY:=ae (fun (W:World) (t:Two w W a nb ca b nb cb c nc cc xa xn xc ya yn yc ra rn rc ⟨2,rX,rY,rr,(v1,v2),rp⟩ A B C)=>iI t.lp.b HFB6.out (by omega) t.lr.y);simp only [<-hdv] at HDU;simp only [<-hdy] at HDY;obtain ⟨y1,y2,yok,hyy⟩:∃ y1 y2 yok,optR dy=((y1,y2),yok):=⟨_,_,_,rfl⟩;simp only [hyy] at HDY
 have HYY:=ae (show posO dy=(yok&&decide (0<y1)) by
  cases dy with
  | none=>simp only [optR] at hyy;cases hyy;rfl
  | some v=>obtain ⟨z1,z2⟩:=v;simp only [optR,Option.getD_some,Option.isSome_some,Prod.mk.injEq] at hyy;obtain ⟨⟨rfl,rfl⟩,rfl⟩:=hyy;rfl)
 clear h h' ok r4 r5 r6;clear hV hdv hdy hyy;have HS1:((2:Int) == 1)=false:=by decide
 go_enter Tryz.func162,Tryz.ntmps162
 obtain ⟨p0,p1,p2⟩:=T0.out.p;obtain ⟨q0,q1,q2,q3,q4,q5⟩:=T0.out.q;go_wp2_with fail;refine HV.out.mono ?_;rintro e w1 ⟨rfl,hx⟩;have T1:=ae (T0.out.grow hx);clear hx p0 p1 p2 q0 q1 q2 q3 q4 q5;obtain ⟨p0,p1,p2⟩:=T1.out.p;obtain ⟨q0,q1,q2,q3,q4,q5⟩:=T1.out.q;go_wp2_with fail;refine (HDY.out _ T1.out).mono ?_;rintro e w2 ⟨rfl,hx⟩;obtain ⟨E,hE⟩:∃ E,E=w2.alloc (.cells #[.int .i64 y1,.int .i64 y2] 43):=⟨_,rfl⟩;obtain ⟨gx,hgx⟩:∃ g,g=w2.heap.size:=⟨_,rfl⟩;have hxE:Ext w2 E:=by rw [hE];exact Ext.alloc _ _
 have TE:=ae ((T1.out.grow hx).grow hxE);have HB0:=ae (show ah w2 E gx y1 y2 by rw [hE,hgx];exact ah.new (Ext.refl _) _ _);go_upto_region 8 with fail;rw [<-hE,<-hgx];clear hE hxE hx hgx p0 p1 p2 q0 q1 q2 q3 q4 q5;obtain ⟨p0,p1,p2⟩:=TE.out.p;obtain ⟨q0,q1,q2,q3,q4,q5⟩:=TE.out.q;have b0:=HB0.out.c0;have b1:=HB0.out.c1;have hk2:Ext E E.drew:=Ext.drew E;have HKEEP:=ae (fun (w':World) (h:Ext E w')=>(⟨h.cellSome p0,h.cellSome p1,h.cellSome p2,h.cellSome q2,h.cellSome b0,h.cellSome b1,h⟩:w'.cell? ⟨w.heap.size,0,none⟩=some (.slice a nb ca)/\w'.cell? ⟨w.heap.size,1,none⟩=some (.slice b nb cb)/\w'.cell? ⟨w.heap.size,2,none⟩=some (.slice c nc cc)/\w'.cell? ⟨w.heap.size+1,2,none⟩=some (.slice ya yn yc)/\w'.cell? ⟨gx,0,none⟩=some (.int .i64 y1)/\w'.cell? ⟨gx,1,none⟩=some (.int .i64 y2)/\Ext E w'));by_cases hyn:yn=nb
 ·have hne:((yn:Int) == (nb:Int))=true:=by simp;omega
  have HYN:=ae hyn;clear hyn;cases dv
  ·have HZ:=ae (show false=V by rw [HVE.out];simp);refine wp_region_held_drew (S:=(fun w'=>w'.cell? ⟨w.heap.size,0,none⟩=some (.slice a nb ca)/\w'.cell? ⟨w.heap.size,1,none⟩=some (.slice b nb cb)/\w'.cell? ⟨w.heap.size,2,none⟩=some (.slice c nc cc)/\w'.cell? ⟨w.heap.size+1,2,none⟩=some (.slice ya yn yc)/\w'.cell? ⟨gx,0,none⟩=some (.int .i64 y1)/\w'.cell? ⟨gx,1,none⟩=some (.int .i64 y2)/\Ext E w')) (by kernel_rfl) ?_ (fun hHeld=>?_)
   ·exact HKEEP.out _ hk2
   refine tk 0 ?_;refine tk 1 ?_;refine tk 2 ?_;refine tk 3 ?_;refine tk 4 ?_;refine tk 5 ?_;refine tk 6 ?_;refine tk 7 ?_;refine tk 8 ?_;refine tk 9 ?_;refine tk 10 ?_;refine tk 11 ?_;refine tk 12 ?_;refine tk 13 ?_;refine rd (i:=14) (h:=fun K hK=>?_);go_simp
   (go_at_call 181;refine (iy nc (by omega)).mono ?_;rintro e w3 ⟨⟨v3,rfl,ho3⟩,hx3⟩;have hk2:=hk2.trans hx3;obtain ⟨a3,n3,c3,rfl,hn3⟩:=ho3.var;have hn4:nc<=n3:=by (have h1:=hn3.out;rw [List.length_replicate] at h1;omega))
   go_wp2_with fail;refine hK.out _ _ ?_ (fun hHeld=>?_)
   ·exact HKEEP.out _ hk2
   clear hK K
   try simp only [Act.put,sA,sB,sC]
   refine rd (i:=15) (h:=fun K hK=>?_);go_simp
   (go_at_call 232;refine (HDU.out _ (TE.out.grow hk2) _ _ _ ho3.rats hn4).mono ?_;rintro e w4 ⟨rfl,hx4⟩;have hk2:=hk2.trans hx4)
   go_wp2_with fail;refine hK.out _ _ ?_ (fun hHeld=>?_)
   ·exact HKEEP.out _ hk2
   clear hK K
   try simp only [Act.put,sA,sB,sC]
   refine tk 16 ?_;refine tk 17 ?_;refine sk 18 ?_;refine tk 19 ?_;refine tk 20 ?_;refine sk 21 ?_;refine sk 22 ?_;refine sk 23 ?_;refine tk 24 ?_;refine tk 25 ?_;refine wpAnyH_done (by kernel_rfl) ?_ _;go_wp2_with fail;go_ret;exact ⟨ag HZ.out,(TE.out.grow hk2).all⟩
  ·cases yok
   ·have HZ:=ae (show false=V by rw [HVE.out,HYY.out,decide_eq_true HYN.out];simp);refine wp_region_held_drew (S:=(fun w'=>w'.cell? ⟨w.heap.size,0,none⟩=some (.slice a nb ca)/\w'.cell? ⟨w.heap.size,1,none⟩=some (.slice b nb cb)/\w'.cell? ⟨w.heap.size,2,none⟩=some (.slice c nc cc)/\w'.cell? ⟨w.heap.size+1,2,none⟩=some (.slice ya yn yc)/\w'.cell? ⟨gx,0,none⟩=some (.int .i64 y1)/\w'.cell? ⟨gx,1,none⟩=some (.int .i64 y2)/\Ext E w')) (by kernel_rfl) ?_ (fun hHeld=>?_)
    ·exact HKEEP.out _ hk2
    refine tk 0 ?_;refine tk 1 ?_;refine tk 2 ?_;refine tk 3 ?_;refine tk 4 ?_;refine tk 5 ?_;refine tk 6 ?_;refine tk 7 ?_;refine tk 8 ?_;refine tk 9 ?_;refine tk 10 ?_;refine tk 11 ?_;refine tk 12 ?_;refine tk 13 ?_;refine rd (i:=14) (h:=fun K hK=>?_);go_simp
    (go_at_call 181;refine (iy nc (by omega)).mono ?_;rintro e w3 ⟨⟨v3,rfl,ho3⟩,hx3⟩;have hk2:=hk2.trans hx3;obtain ⟨a3,n3,c3,rfl,hn3⟩:=ho3.var;have hn4:nc<=n3:=by (have h1:=hn3.out;rw [List.length_replicate] at h1;omega))
    go_wp2_with fail;refine hK.out _ _ ?_ (fun hHeld=>?_)
    ·exact HKEEP.out _ hk2
    clear hK K
    try simp only [Act.put,sA,sB,sC]
    refine rd (i:=15) (h:=fun K hK=>?_);go_simp
    (go_at_call 232;refine (HDU.out _ (TE.out.grow hk2) _ _ _ ho3.rats hn4).mono ?_;rintro e w4 ⟨rfl,hx4⟩;have hk2:=hk2.trans hx4)
    go_wp2_with fail;refine hK.out _ _ ?_ (fun hHeld=>?_)
    ·exact HKEEP.out _ hk2
    clear hK K
    try simp only [Act.put,sA,sB,sC]
    refine tk 16 ?_;refine tk 17 ?_;refine tk 18 ?_;refine tk 19 ?_;refine tk 20 ?_;refine sk 21 ?_;refine sk 22 ?_;refine sk 23 ?_;refine tk 24 ?_;refine tk 25 ?_;refine wpAnyH_done (by kernel_rfl) ?_ _;go_wp2_with fail;go_ret;exact ⟨ag HZ.out,(TE.out.grow hk2).all⟩
   ·have HZ:=ae (show decide (0<y1)=V by rw [HVE.out,HYY.out,decide_eq_true HYN.out];simp);refine wp_region_held_drew (S:=(fun w'=>w'.cell? ⟨w.heap.size,0,none⟩=some (.slice a nb ca)/\w'.cell? ⟨w.heap.size,1,none⟩=some (.slice b nb cb)/\w'.cell? ⟨w.heap.size,2,none⟩=some (.slice c nc cc)/\w'.cell? ⟨w.heap.size+1,2,none⟩=some (.slice ya yn yc)/\w'.cell? ⟨gx,0,none⟩=some (.int .i64 y1)/\w'.cell? ⟨gx,1,none⟩=some (.int .i64 y2)/\Ext E w')) (by kernel_rfl) ?_ (fun hHeld=>?_)
    ·exact HKEEP.out _ hk2
    refine tk 0 ?_;refine tk 1 ?_;refine tk 2 ?_;refine tk 3 ?_;refine tk 4 ?_;refine tk 5 ?_;refine tk 6 ?_;refine tk 7 ?_;refine tk 8 ?_;refine tk 9 ?_;refine tk 10 ?_;refine tk 11 ?_;refine tk 12 ?_;refine tk 13 ?_;refine rd (i:=14) (h:=fun K hK=>?_);go_simp
    (go_at_call 181;refine (iy nc (by omega)).mono ?_;rintro e w3 ⟨⟨v3,rfl,ho3⟩,hx3⟩;have hk2:=hk2.trans hx3;obtain ⟨a3,n3,c3,rfl,hn3⟩:=ho3.var;have hn4:nc<=n3:=by (have h1:=hn3.out;rw [List.length_replicate] at h1;omega))
    go_wp2_with fail;refine hK.out _ _ ?_ (fun hHeld=>?_)
    ·exact HKEEP.out _ hk2
    clear hK K
    try simp only [Act.put,sA,sB,sC]
    refine rd (i:=15) (h:=fun K hK=>?_);go_simp
    (go_at_call 232;refine (HDU.out _ (TE.out.grow hk2) _ _ _ ho3.rats hn4).mono ?_;rintro e w4 ⟨rfl,hx4⟩;have hk2:=hk2.trans hx4)
    go_wp2_with fail;refine hK.out _ _ ?_ (fun hHeld=>?_)
    ·exact HKEEP.out _ hk2
    clear hK K
    try simp only [Act.put,sA,sB,sC]
    refine tk 16 ?_;refine tk 17 ?_;refine tk 18 ?_;refine tk 19 ?_;refine tk 20 ?_;refine tk 21 ?_;refine tk 22 ?_;refine tk 23 ?_;refine tk 24 ?_;refine tk 25 ?_;refine wpAnyH_done (by kernel_rfl) ?_ _;go_wp2_with fail;go_ret;exact ⟨ag HZ.out,(TE.out.grow hk2).all⟩
 ·have hne:((yn:Int) == (nb:Int))=false:=by simp;omega
  have HZ:=ae (show false=V by rw [HVE.out,decide_eq_false hyn];rfl);clear hyn;refine wp_region_held_drew (S:=(fun w'=>w'.cell? ⟨w.heap.size,0,none⟩=some (.slice a nb ca)/\w'.cell? ⟨w.heap.size,1,none⟩=some (.slice b nb cb)/\w'.cell? ⟨w.heap.size,2,none⟩=some (.slice c nc cc)/\w'.cell? ⟨w.heap.size+1,2,none⟩=some (.slice ya yn yc)/\w'.cell? ⟨gx,0,none⟩=some (.int .i64 y1)/\w'.cell? ⟨gx,1,none⟩=some (.int .i64 y2)/\Ext E w')) (by kernel_rfl) ?_ (fun hHeld=>?_)
  ·exact HKEEP.out _ hk2
  refine tk 0 ?_;refine tk 1 ?_;refine tk 2 ?_;refine tk 3 ?_;refine tk 4 ?_;refine tk 5 ?_;refine tk 6 ?_;refine tk 7 ?_;refine sk 8 ?_;refine sk 9 ?_;refine sk 10 ?_;refine sk 11 ?_;refine sk 12 ?_;refine sk 13 ?_;refine sk 14 ?_;refine sk 15 ?_;refine tk 16 ?_;refine tk 17 ?_;refine sk 18 ?_;refine tk 19 ?_;refine tk 20 ?_;refine sk 21 ?_;refine sk 22 ?_;refine sk 23 ?_;refine tk 24 ?_;refine tk 25 ?_;refine wpAnyH_done (by kernel_rfl) ?_ _;go_wp2_with fail;go_ret;exact ⟨ag HZ.out,(TE.out.grow hk2).all⟩
set_option maxHeartbeats 16000000 in
theorem oO (h:LpC w a na ca b nb cb c nc cc A B C) (h':LrC w xa xn xc ya yn yc ra rn rc r) (ok:okLP A B C=true) (hs:r.status=3) :
 Calls Tryz.prog 162 #[lpW a na ca b nb cb c nc cc,lrW r xa xn xc ya yn yc ra rn rc] w fun e w'=>e=.returned (.bool (aH aX A B C r))/\Ext w w':=by
 obtain ⟨r1,r2,r3,r4,r5,r6⟩:=cg h ok;subst r3;have T0:=ae (show Two w ((w.alloc (bm a nb ca b nb cb c nc cc)).alloc (bS r xa xn xc ya yn yc ra rn rc)) a nb ca b nb cb c nc cc xa xn xc ya yn yc ra rn rc r A B C from ⟨Ext.refl _,(h.ext (Ext.alloc _ _)).ext (Ext.alloc _ _),(h'.ext (Ext.alloc _ _)).ext (Ext.alloc _ _)⟩);have hy1:=h'.y.hcap;have hy2:=h'.y.hmax;have hr1:=h'.ray.hcap;have hr2:=h'.ray.hmax;have hc1:=h.c.hcap;have hc2:=h.c.hmax;have hb1:=h.b.hcap;have hb2:=h.b.hmax;have HOK:=ae ok;have HFB6:=ae (em r6);have HR5:=ae r5;obtain ⟨st,rX,rY,rr,rv,rp⟩:=r;obtain ⟨v1,v2⟩:=rv;simp only at hs;subst hs;have HLY:=ae h'.y.hlen;have HLB:=ae h.b.hlen;have HLC:=ae h.c.hlen;have HLR:=ae h'.ray.hlen;have HV:=ae (dA T0.out.lp);rw [ok] at HV;obtain ⟨V,hV⟩:∃ v,v=aH aX A B C ⟨3,rX,rY,rr,(v1,v2),rp⟩:=⟨_,rfl⟩;rw [<-hV];obtain ⟨fv,hfv⟩:∃ f,f=dt A B C.length rX:=⟨_,rfl⟩;obtain ⟨pv,hpv⟩:∃ f,f=posV rr:=⟨_,rfl⟩;obtain ⟨gv,hgv⟩:∃ f,f=cU A rr (List.replicate nb 0):=⟨_,rfl⟩;obtain ⟨dx,hdx⟩:∃ d,d=dotL C rr:=⟨_,rfl⟩
 have HVE:=ae (show V=(fv&&((decide (rn=nc)&&pv)&&(gv&&negO dx))) by
  rw [hV,hfv,hpv,hgv,hdx];unfold aH;rw [if_neg (by simp),if_neg (by simp),if_pos rfl];simp only;rw [nY,HLB.out,HLC.out,show rr.length=rn from HLR.out])
 have HF:=ae (fun (W:World) (t:Two w W a nb ca b nb cb c nc cc xa xn xc ya yn yc ra rn rc ⟨3,rX,rY,rr,(v1,v2),rp⟩ A B C)=>iw t.lp HOK.out t.lr.x);have HN:=ae (fun (W:World) (t:Two w W a nb ca b nb cb c nc cc xa xn xc ya yn yc ra rn rc ⟨3,rX,rY,rr,(v1,v2),rp⟩ A B C)=>gn t.lr.ray);have hmk:=gN nb (by omega);have HGV:=ae (fun (W:World) (t:Two w W a nb ca b nb cb c nc cc xa xn xc ya yn yc ra rn rc ⟨3,rX,rY,rr,(v1,v2),rp⟩ A B C)=>ls (b:=b) (nb:=nb) (cb:=cb) (c:=c) (nc:=nc) (cc:=cc) (t.grow (Ext.alloc W (.cells (aW (List.replicate nb 0)) 3))).lp.a (t.grow (Ext.alloc W (.cells (aW (List.replicate nb 0)) 3))).lr.ray (Row.ints (show Row (W.alloc (.cells (aW (List.replicate nb 0)) 3)) W.heap.size 3 (List.replicate nb 0) from heap_alloc_new _ _) (by simp) (Nat.le_refl nb) (by omega)) (Nat.le_refl _) HR5.out);have HDX:=ae (fun (W:World) (t:Two w W a nb ca b nb cb c nc cc xa xn xc ya yn yc ra rn rc ⟨3,rX,rY,rr,(v1,v2),rp⟩ A B C)=>jn t.lp.c t.lr.ray);simp only [<-hfv] at HF;simp only [<-hpv] at HN;simp only [<-hgv] at HGV;simp only [<-hdx] at HDX;obtain ⟨x1,x2,xok,hxx⟩:∃ y1 y2 yok,optR dx=((y1,y2),yok):=⟨_,_,_,rfl⟩;simp only [hxx] at HDX
 have HXX:=ae (show negO dx=(xok&&decide (x1<0)) by
  cases dx with
  | none=>simp only [optR] at hxx;cases hxx;rfl
  | some v=>obtain ⟨z1,z2⟩:=v;simp only [optR,Option.getD_some,Option.isSome_some,Prod.mk.injEq] at hxx;obtain ⟨⟨rfl,rfl⟩,rfl⟩:=hxx;rfl)
 clear h h' ok r4 r5 r6;clear hV hfv hpv hgv hdx hxx;have HS1:((3:Int) == 1)=false:=by decide
 have HS2:((3:Int) == 2)=false:=by decide
 go_enter Tryz.func162,Tryz.ntmps162
 obtain ⟨p0,p1,p2⟩:=T0.out.p;obtain ⟨q0,q1,q2,q3,q4,q5⟩:=T0.out.q;go_wp2_with fail;refine HV.out.mono ?_;rintro e w1 ⟨rfl,hx⟩;have T1:=ae (T0.out.grow hx);clear hx p0 p1 p2 q0 q1 q2 q3 q4 q5;obtain ⟨p0,p1,p2⟩:=T1.out.p;obtain ⟨q0,q1,q2,q3,q4,q5⟩:=T1.out.q;go_wp2_with fail;refine (HDX.out _ T1.out).mono ?_;rintro e w2 ⟨rfl,hx⟩;obtain ⟨E,hE⟩:∃ E,E=w2.alloc (.cells #[.int .i64 x1,.int .i64 x2] 43):=⟨_,rfl⟩;obtain ⟨gx,hgx⟩:∃ g,g=w2.heap.size:=⟨_,rfl⟩;have hxE:Ext w2 E:=by rw [hE];exact Ext.alloc _ _
 have TE:=ae ((T1.out.grow hx).grow hxE);have HB0:=ae (show ah w2 E gx x1 x2 by rw [hE,hgx];exact ah.new (Ext.refl _) _ _);go_upto_region 11 with fail;rw [<-hE,<-hgx];clear hE hxE hx hgx p0 p1 p2 q0 q1 q2 q3 q4 q5;obtain ⟨p0,p1,p2⟩:=TE.out.p;obtain ⟨q0,q1,q2,q3,q4,q5⟩:=TE.out.q;have b0:=HB0.out.c0;have b1:=HB0.out.c1;have hk2:Ext E E.drew:=Ext.drew E;have HKEEP:=ae (fun (w':World) (h:Ext E w')=>(⟨h.cellSome p0,h.cellSome p1,h.cellSome p2,h.cellSome q1,h.cellSome q3,h.cellSome b0,h.cellSome b1,h⟩:w'.cell? ⟨w.heap.size,0,none⟩=some (.slice a nb ca)/\w'.cell? ⟨w.heap.size,1,none⟩=some (.slice b nb cb)/\w'.cell? ⟨w.heap.size,2,none⟩=some (.slice c nc cc)/\w'.cell? ⟨w.heap.size+1,1,none⟩=some (.slice xa xn xc)/\w'.cell? ⟨w.heap.size+1,3,none⟩=some (.slice ra rn rc)/\w'.cell? ⟨gx,0,none⟩=some (.int .i64 x1)/\w'.cell? ⟨gx,1,none⟩=some (.int .i64 x2)/\Ext E w'));cases fv
 ·have HZ:=ae (show false=V by rw [HVE.out];rfl);refine wp_region_held_drew (S:=(fun w'=>w'.cell? ⟨w.heap.size,0,none⟩=some (.slice a nb ca)/\w'.cell? ⟨w.heap.size,1,none⟩=some (.slice b nb cb)/\w'.cell? ⟨w.heap.size,2,none⟩=some (.slice c nc cc)/\w'.cell? ⟨w.heap.size+1,1,none⟩=some (.slice xa xn xc)/\w'.cell? ⟨w.heap.size+1,3,none⟩=some (.slice ra rn rc)/\w'.cell? ⟨gx,0,none⟩=some (.int .i64 x1)/\w'.cell? ⟨gx,1,none⟩=some (.int .i64 x2)/\Ext E w')) (by kernel_rfl) ?_ (fun hHeld=>?_)
  ·exact HKEEP.out _ hk2
  refine tk 0 ?_;refine tk 1 ?_;refine tk 2 ?_;refine rd (i:=3) (h:=fun K hK=>?_);go_simp
  (go_at_call 234;refine (HF.out _ (TE.out.grow hk2)).mono ?_;rintro e w3 ⟨rfl,hx3⟩;have hk2:=hk2.trans hx3)
  go_wp2_with fail;refine hK.out _ _ ?_ (fun hHeld=>?_)
  ·exact HKEEP.out _ hk2
  clear hK K
  try simp only [Act.put,sA,sB,sC]
  refine tk 4 ?_;refine sk 5 ?_;refine sk 6 ?_;refine sk 7 ?_;refine sk 8 ?_;refine sk 9 ?_;refine sk 10 ?_;refine sk 11 ?_;refine tk 12 ?_;refine tk 13 ?_;refine sk 14 ?_;refine sk 15 ?_;refine sk 16 ?_;refine tk 17 ?_;refine tk 18 ?_;refine sk 19 ?_;refine sk 20 ?_;refine sk 21 ?_;refine sk 22 ?_;refine sk 23 ?_;refine sk 24 ?_;refine sk 25 ?_;refine sk 26 ?_;refine tk 27 ?_;refine tk 28 ?_;refine sk 29 ?_;refine tk 30 ?_;refine tk 31 ?_;refine sk 32 ?_;refine sk 33 ?_;refine sk 34 ?_;refine tk 35 ?_;refine tk 36 ?_;refine wpAnyH_done (by kernel_rfl) ?_ _;go_wp2_with fail;go_ret;exact ⟨ag HZ.out,(TE.out.grow hk2).all⟩
 ·by_cases hrn:rn=nc
  ·have hne:((rn:Int) == (nc:Int))=true:=by simp;omega
   have HRN:=ae hrn;clear hrn;cases pv
   ·have HZ:=ae (show false=V by rw [HVE.out];simp);refine wp_region_held_drew (S:=(fun w'=>w'.cell? ⟨w.heap.size,0,none⟩=some (.slice a nb ca)/\w'.cell? ⟨w.heap.size,1,none⟩=some (.slice b nb cb)/\w'.cell? ⟨w.heap.size,2,none⟩=some (.slice c nc cc)/\w'.cell? ⟨w.heap.size+1,1,none⟩=some (.slice xa xn xc)/\w'.cell? ⟨w.heap.size+1,3,none⟩=some (.slice ra rn rc)/\w'.cell? ⟨gx,0,none⟩=some (.int .i64 x1)/\w'.cell? ⟨gx,1,none⟩=some (.int .i64 x2)/\Ext E w')) (by kernel_rfl) ?_ (fun hHeld=>?_)
    ·exact HKEEP.out _ hk2
    refine tk 0 ?_;refine tk 1 ?_;refine tk 2 ?_;refine rd (i:=3) (h:=fun K hK=>?_);go_simp
    (go_at_call 234;refine (HF.out _ (TE.out.grow hk2)).mono ?_;rintro e w3 ⟨rfl,hx3⟩;have hk2:=hk2.trans hx3)
    go_wp2_with fail;refine hK.out _ _ ?_ (fun hHeld=>?_)
    ·exact HKEEP.out _ hk2
    clear hK K
    try simp only [Act.put,sA,sB,sC]
    refine tk 4 ?_;refine tk 5 ?_;refine tk 6 ?_;refine tk 7 ?_;refine tk 8 ?_;refine tk 9 ?_;refine tk 10 ?_;refine tk 11 ?_;refine tk 12 ?_;refine tk 13 ?_;refine tk 14 ?_;refine tk 15 ?_;refine rd (i:=16) (h:=fun K hK=>?_);go_simp
    (go_at_call 235;refine (HN.out _ (TE.out.grow hk2)).mono ?_;rintro e w4 ⟨rfl,hx4⟩;have hk2:=hk2.trans hx4)
    go_wp2_with fail;refine hK.out _ _ ?_ (fun hHeld=>?_)
    ·exact HKEEP.out _ hk2
    clear hK K
    try simp only [Act.put,sA,sB,sC]
    refine tk 17 ?_;refine tk 18 ?_;refine sk 19 ?_;refine sk 20 ?_;refine sk 21 ?_;refine sk 22 ?_;refine sk 23 ?_;refine sk 24 ?_;refine sk 25 ?_;refine sk 26 ?_;refine tk 27 ?_;refine tk 28 ?_;refine sk 29 ?_;refine tk 30 ?_;refine tk 31 ?_;refine sk 32 ?_;refine sk 33 ?_;refine sk 34 ?_;refine tk 35 ?_;refine tk 36 ?_;refine wpAnyH_done (by kernel_rfl) ?_ _;go_wp2_with fail;go_ret;exact ⟨ag HZ.out,(TE.out.grow hk2).all⟩
   ·cases gv
    ·have HZ:=ae (show false=V by rw [HVE.out];simp);refine wp_region_held_drew (S:=(fun w'=>w'.cell? ⟨w.heap.size,0,none⟩=some (.slice a nb ca)/\w'.cell? ⟨w.heap.size,1,none⟩=some (.slice b nb cb)/\w'.cell? ⟨w.heap.size,2,none⟩=some (.slice c nc cc)/\w'.cell? ⟨w.heap.size+1,1,none⟩=some (.slice xa xn xc)/\w'.cell? ⟨w.heap.size+1,3,none⟩=some (.slice ra rn rc)/\w'.cell? ⟨gx,0,none⟩=some (.int .i64 x1)/\w'.cell? ⟨gx,1,none⟩=some (.int .i64 x2)/\Ext E w')) (by kernel_rfl) ?_ (fun hHeld=>?_)
     ·exact HKEEP.out _ hk2
     refine tk 0 ?_;refine tk 1 ?_;refine tk 2 ?_;refine rd (i:=3) (h:=fun K hK=>?_);go_simp
     (go_at_call 234;refine (HF.out _ (TE.out.grow hk2)).mono ?_;rintro e w3 ⟨rfl,hx3⟩;have hk2:=hk2.trans hx3)
     go_wp2_with fail;refine hK.out _ _ ?_ (fun hHeld=>?_)
     ·exact HKEEP.out _ hk2
     clear hK K
     try simp only [Act.put,sA,sB,sC]
     refine tk 4 ?_;refine tk 5 ?_;refine tk 6 ?_;refine tk 7 ?_;refine tk 8 ?_;refine tk 9 ?_;refine tk 10 ?_;refine tk 11 ?_;refine tk 12 ?_;refine tk 13 ?_;refine tk 14 ?_;refine tk 15 ?_;refine rd (i:=16) (h:=fun K hK=>?_);go_simp
     (go_at_call 235;refine (HN.out _ (TE.out.grow hk2)).mono ?_;rintro e w4 ⟨rfl,hx4⟩;have hk2:=hk2.trans hx4)
     go_wp2_with fail;refine hK.out _ _ ?_ (fun hHeld=>?_)
     ·exact HKEEP.out _ hk2
     clear hK K
     try simp only [Act.put,sA,sB,sC]
     refine tk 17 ?_;refine tk 18 ?_;refine tk 19 ?_;refine tk 20 ?_;refine tk 21 ?_;refine tk 22 ?_;refine tk 23 ?_;refine tk 24 ?_;have TG:=ae (TE.out.grow hk2);have hk9:=hk2;have hk2:=hk9.trans (Ext.alloc w4 (.cells (aW (List.replicate nb 0)) 3));refine rd (i:=25) (h:=fun K hK=>?_);go_simp;refine hK.out _ _ ?_ (fun hHeld=>?_)
     ·exact HKEEP.out _ hk2
     clear hK K
     try simp only [Act.put,sA,sB,sC]
     refine rd (i:=26) (h:=fun K hK=>?_);go_simp
     (go_at_call 236;refine (HGV.out _ TG.out).mono ?_;rintro e w5 ⟨rfl,hx5⟩;have hk2:=hk2.trans hx5)
     go_wp2_with fail;refine hK.out _ _ ?_ (fun hHeld=>?_)
     ·exact HKEEP.out _ hk2
     clear hK K
     try simp only [Act.put,sA,sB,sC]
     refine tk 27 ?_;refine tk 28 ?_;refine sk 29 ?_;refine tk 30 ?_;refine tk 31 ?_;refine sk 32 ?_;refine sk 33 ?_;refine sk 34 ?_;refine tk 35 ?_;refine tk 36 ?_;refine wpAnyH_done (by kernel_rfl) ?_ _;go_wp2_with fail;go_ret;exact ⟨ag HZ.out,(TE.out.grow hk2).all⟩
    ·cases xok
     ·have HZ:=ae (show false=V by rw [HVE.out,HXX.out,decide_eq_true HRN.out];simp);refine wp_region_held_drew (S:=(fun w'=>w'.cell? ⟨w.heap.size,0,none⟩=some (.slice a nb ca)/\w'.cell? ⟨w.heap.size,1,none⟩=some (.slice b nb cb)/\w'.cell? ⟨w.heap.size,2,none⟩=some (.slice c nc cc)/\w'.cell? ⟨w.heap.size+1,1,none⟩=some (.slice xa xn xc)/\w'.cell? ⟨w.heap.size+1,3,none⟩=some (.slice ra rn rc)/\w'.cell? ⟨gx,0,none⟩=some (.int .i64 x1)/\w'.cell? ⟨gx,1,none⟩=some (.int .i64 x2)/\Ext E w')) (by kernel_rfl) ?_ (fun hHeld=>?_)
      ·exact HKEEP.out _ hk2
      refine tk 0 ?_;refine tk 1 ?_;refine tk 2 ?_;refine rd (i:=3) (h:=fun K hK=>?_);go_simp
      (go_at_call 234;refine (HF.out _ (TE.out.grow hk2)).mono ?_;rintro e w3 ⟨rfl,hx3⟩;have hk2:=hk2.trans hx3)
      go_wp2_with fail;refine hK.out _ _ ?_ (fun hHeld=>?_)
      ·exact HKEEP.out _ hk2
      clear hK K
      try simp only [Act.put,sA,sB,sC]
      refine tk 4 ?_;refine tk 5 ?_;refine tk 6 ?_;refine tk 7 ?_;refine tk 8 ?_;refine tk 9 ?_;refine tk 10 ?_;refine tk 11 ?_;refine tk 12 ?_;refine tk 13 ?_;refine tk 14 ?_;refine tk 15 ?_;refine rd (i:=16) (h:=fun K hK=>?_);go_simp
      (go_at_call 235;refine (HN.out _ (TE.out.grow hk2)).mono ?_;rintro e w4 ⟨rfl,hx4⟩;have hk2:=hk2.trans hx4)
      go_wp2_with fail;refine hK.out _ _ ?_ (fun hHeld=>?_)
      ·exact HKEEP.out _ hk2
      clear hK K
      try simp only [Act.put,sA,sB,sC]
      refine tk 17 ?_;refine tk 18 ?_;refine tk 19 ?_;refine tk 20 ?_;refine tk 21 ?_;refine tk 22 ?_;refine tk 23 ?_;refine tk 24 ?_;have TG:=ae (TE.out.grow hk2);have hk9:=hk2;have hk2:=hk9.trans (Ext.alloc w4 (.cells (aW (List.replicate nb 0)) 3));refine rd (i:=25) (h:=fun K hK=>?_);go_simp;refine hK.out _ _ ?_ (fun hHeld=>?_)
      ·exact HKEEP.out _ hk2
      clear hK K
      try simp only [Act.put,sA,sB,sC]
      refine rd (i:=26) (h:=fun K hK=>?_);go_simp
      (go_at_call 236;refine (HGV.out _ TG.out).mono ?_;rintro e w5 ⟨rfl,hx5⟩;have hk2:=hk2.trans hx5)
      go_wp2_with fail;refine hK.out _ _ ?_ (fun hHeld=>?_)
      ·exact HKEEP.out _ hk2
      clear hK K
      try simp only [Act.put,sA,sB,sC]
      refine tk 27 ?_;refine tk 28 ?_;refine tk 29 ?_;refine tk 30 ?_;refine tk 31 ?_;refine sk 32 ?_;refine sk 33 ?_;refine sk 34 ?_;refine tk 35 ?_;refine tk 36 ?_;refine wpAnyH_done (by kernel_rfl) ?_ _;go_wp2_with fail;go_ret;exact ⟨ag HZ.out,(TE.out.grow hk2).all⟩
     ·have HZ:=ae (show decide (x1<0)=V by rw [HVE.out,HXX.out,decide_eq_true HRN.out];simp);refine wp_region_held_drew (S:=(fun w'=>w'.cell? ⟨w.heap.size,0,none⟩=some (.slice a nb ca)/\w'.cell? ⟨w.heap.size,1,none⟩=some (.slice b nb cb)/\w'.cell? ⟨w.heap.size,2,none⟩=some (.slice c nc cc)/\w'.cell? ⟨w.heap.size+1,1,none⟩=some (.slice xa xn xc)/\w'.cell? ⟨w.heap.size+1,3,none⟩=some (.slice ra rn rc)/\w'.cell? ⟨gx,0,none⟩=some (.int .i64 x1)/\w'.cell? ⟨gx,1,none⟩=some (.int .i64 x2)/\Ext E w')) (by kernel_rfl) ?_ (fun hHeld=>?_)
      ·exact HKEEP.out _ hk2
      refine tk 0 ?_;refine tk 1 ?_;refine tk 2 ?_;refine rd (i:=3) (h:=fun K hK=>?_);go_simp
      (go_at_call 234;refine (HF.out _ (TE.out.grow hk2)).mono ?_;rintro e w3 ⟨rfl,hx3⟩;have hk2:=hk2.trans hx3)
      go_wp2_with fail;refine hK.out _ _ ?_ (fun hHeld=>?_)
      ·exact HKEEP.out _ hk2
      clear hK K
      try simp only [Act.put,sA,sB,sC]
      refine tk 4 ?_;refine tk 5 ?_;refine tk 6 ?_;refine tk 7 ?_;refine tk 8 ?_;refine tk 9 ?_;refine tk 10 ?_;refine tk 11 ?_;refine tk 12 ?_;refine tk 13 ?_;refine tk 14 ?_;refine tk 15 ?_;refine rd (i:=16) (h:=fun K hK=>?_);go_simp
      (go_at_call 235;refine (HN.out _ (TE.out.grow hk2)).mono ?_;rintro e w4 ⟨rfl,hx4⟩;have hk2:=hk2.trans hx4)
      go_wp2_with fail;refine hK.out _ _ ?_ (fun hHeld=>?_)
      ·exact HKEEP.out _ hk2
      clear hK K
      try simp only [Act.put,sA,sB,sC]
      refine tk 17 ?_;refine tk 18 ?_;refine tk 19 ?_;refine tk 20 ?_;refine tk 21 ?_;refine tk 22 ?_;refine tk 23 ?_;refine tk 24 ?_;have TG:=ae (TE.out.grow hk2);have hk9:=hk2;have hk2:=hk9.trans (Ext.alloc w4 (.cells (aW (List.replicate nb 0)) 3));refine rd (i:=25) (h:=fun K hK=>?_);go_simp;refine hK.out _ _ ?_ (fun hHeld=>?_)
      ·exact HKEEP.out _ hk2
      clear hK K
      try simp only [Act.put,sA,sB,sC]
      refine rd (i:=26) (h:=fun K hK=>?_);go_simp
      (go_at_call 236;refine (HGV.out _ TG.out).mono ?_;rintro e w5 ⟨rfl,hx5⟩;have hk2:=hk2.trans hx5)
      go_wp2_with fail;refine hK.out _ _ ?_ (fun hHeld=>?_)
      ·exact HKEEP.out _ hk2
      clear hK K
      try simp only [Act.put,sA,sB,sC]
      refine tk 27 ?_;refine tk 28 ?_;refine tk 29 ?_;refine tk 30 ?_;refine tk 31 ?_;refine tk 32 ?_;refine tk 33 ?_;refine tk 34 ?_;refine tk 35 ?_;refine tk 36 ?_;refine wpAnyH_done (by kernel_rfl) ?_ _;go_wp2_with fail;go_ret;exact ⟨ag HZ.out,(TE.out.grow hk2).all⟩
  ·have hne:((rn:Int) == (nc:Int))=false:=by simp;omega
   have HZ:=ae (show false=V by rw [HVE.out,decide_eq_false hrn];rfl);clear hrn;refine wp_region_held_drew (S:=(fun w'=>w'.cell? ⟨w.heap.size,0,none⟩=some (.slice a nb ca)/\w'.cell? ⟨w.heap.size,1,none⟩=some (.slice b nb cb)/\w'.cell? ⟨w.heap.size,2,none⟩=some (.slice c nc cc)/\w'.cell? ⟨w.heap.size+1,1,none⟩=some (.slice xa xn xc)/\w'.cell? ⟨w.heap.size+1,3,none⟩=some (.slice ra rn rc)/\w'.cell? ⟨gx,0,none⟩=some (.int .i64 x1)/\w'.cell? ⟨gx,1,none⟩=some (.int .i64 x2)/\Ext E w')) (by kernel_rfl) ?_ (fun hHeld=>?_)
   ·exact HKEEP.out _ hk2
   refine tk 0 ?_;refine tk 1 ?_;refine tk 2 ?_;refine rd (i:=3) (h:=fun K hK=>?_);go_simp
   (go_at_call 234;refine (HF.out _ (TE.out.grow hk2)).mono ?_;rintro e w3 ⟨rfl,hx3⟩;have hk2:=hk2.trans hx3)
   go_wp2_with fail;refine hK.out _ _ ?_ (fun hHeld=>?_)
   ·exact HKEEP.out _ hk2
   clear hK K
   try simp only [Act.put,sA,sB,sC]
   refine tk 4 ?_;refine tk 5 ?_;refine tk 6 ?_;refine tk 7 ?_;refine tk 8 ?_;refine tk 9 ?_;refine tk 10 ?_;refine tk 11 ?_;refine tk 12 ?_;refine tk 13 ?_;refine sk 14 ?_;refine sk 15 ?_;refine sk 16 ?_;refine tk 17 ?_;refine tk 18 ?_;refine sk 19 ?_;refine sk 20 ?_;refine sk 21 ?_;refine sk 22 ?_;refine sk 23 ?_;refine sk 24 ?_;refine sk 25 ?_;refine sk 26 ?_;refine tk 27 ?_;refine tk 28 ?_;refine sk 29 ?_;refine tk 30 ?_;refine tk 31 ?_;refine sk 32 ?_;refine sk 33 ?_;refine sk 34 ?_;refine tk 35 ?_;refine tk 36 ?_;refine wpAnyH_done (by kernel_rfl) ?_ _;go_wp2_with fail;go_ret;exact ⟨ag HZ.out,(TE.out.grow hk2).all⟩
set_option maxHeartbeats 4000000 in
theorem qb (h:LpC w a na ca b nb cb c nc cc A B C) (h':LrC w xa xn xc ya yn yc ra rn rc r) (ok:okLP A B C=true) :
 Calls Tryz.prog 162 #[lpW a na ca b nb cb c nc cc,lrW r xa xn xc ya yn yc ra rn rc] w fun e w'=>e=.returned (.bool (aH aX A B C r))/\Ext w w':=by
 by_cases h1:r.status=1
 ·exact oM h h' ok h1
 by_cases h2:r.status=2
 ·exact oN h h' ok h2
 by_cases h3:r.status=3
 ·exact oO h h' ok h3
 have HE:=ae (show aH aX A B C r=false by unfold aH;rw [if_neg h1,if_neg h2,if_neg h3]);have T0:=ae (show Two w ((w.alloc (bm a na ca b nb cb c nc cc)).alloc (bS r xa xn xc ya yn yc ra rn rc)) a na ca b nb cb c nc cc xa xn xc ya yn yc ra rn rc r A B C from ⟨Ext.refl _,(h.ext (Ext.alloc _ _)).ext (Ext.alloc _ _),(h'.ext (Ext.alloc _ _)).ext (Ext.alloc _ _)⟩);have HV:=ae (dA T0.out.lp);rw [ok] at HV;obtain ⟨st,rX,rY,rr,rv,rp⟩:=r;obtain ⟨v1,v2⟩:=rv;simp only at h1 h2 h3;have e1:(st == 1)=false:=by simp;omega
 have e2:(st == 2)=false:=by simp;omega
 have e3:(st == 3)=false:=by simp;omega
 clear h h' h1 h2 h3;go_enter Tryz.func162,Tryz.ntmps162
 obtain ⟨p0,p1,p2⟩:=T0.out.p;obtain ⟨q0,q1,q2,q3,q4,q5⟩:=T0.out.q;go_wp2_with fail;refine HV.out.mono ?_;rintro e w1 ⟨rfl,hx⟩;have T1:=ae (T0.out.grow hx);clear hx p0 p1 p2 q0 q1 q2 q3 q4 q5;obtain ⟨p0,p1,p2⟩:=T1.out.p;obtain ⟨q0,q1,q2,q3,q4,q5⟩:=T1.out.q;go_wp2_with fail;go_ret;exact ⟨ag HE.out.symm,T1.out.all⟩
end
end Go.Proofs.YthjjfkeacobikaaGreat
namespace Go.Proofs.YthjjfkeacobikaaGreat
set_option maxRecDepth 100000
open Go.RowKit
def AsksW (P:Program) (w:World) (fid:FuncId) (ca:Array Value) (p:List (Int × Int)->Bool):Prop :=
 ∀ a n cap r (w1:World),Ext w w1->Rats w1 a n cap r->Calls P fid (#[.slice a n cap]++ca) w1 fun e w2=>e=.returned (.bool (p r))/\Ext w1 w2
set_option maxHeartbeats 1000000 in
theorem ky {w:World} {a:Option Addr} {n cap:Nat} {l:List (List (Int × Int))} {fid:FuncId} {ca:Array Value} {p:List (Int × Int)->Bool} (h:eW w a n cap l) (hg:IsGo Tryz.prog fid) (hf:AsksW Tryz.prog w fid ca p) :
 Calls Tryz.prog 260 #[.slice a n cap,.func (.func fid) #[] ca] w fun e w'=>e=.returned (.int .i64 (bT p l))/\Ext w w':=by
 have hn:=h.hcap;have hm:=h.hmax;have HL:=ae h.hlen;have HI:=ae h;have HF0:=ae hf;clear h hf;have hcf:∀ (args:Array Value) (w:World),(callFunc fid args).run Tryz.prog w=.ok (.enter fid args) w:=hg;go_enter Tryz.func260,Tryz.ntmps260
 go_wp2_with fail
 go_loopg [8] n (fun gk ii wr=>∃ k:Nat,Hid (gk+k=n)/\ii=.int .i64 (k:Int)/\Hid ((l.take k).all (fun x=>!p x)=true)/\Hid (Ext w wr))
 case atStart=>exact ⟨0,ae (by omega),rfl,ae rfl,ae (Ext.refl _)⟩
 case round =>
  obtain ⟨g1,h_g1⟩:∃ x,x=gk:=⟨_,rfl⟩;subst h_g1;obtain ⟨wr1,h_wr1⟩:∃ x,x=wr:=⟨_,rfl⟩;subst h_wr1;obtain ⟨k,HK,rfl,HA,HX⟩:=hrel;by_cases hlt:k<n
  ·obtain ⟨b,off,ra,rn,rc,rfl,hc0,hrow⟩:=(HI.out.ext HX.out).at hlt;have HF:=ae (HF0.out _ _ _ _ wr1 HX.out hrow);clear hrow;have HKL:=ae (show k<l.length by rw [HL.out];exact hlt);cases hb:p (l[k]?.getD [])
   all_goals
    rw [hb] at HF
   ·have HT:=ae (show (l.take (k+1)).all (fun x=>!p x)=true by
     rw [dR HKL.out,List.all_append,HA.out];simp only [List.all_cons,List.all_nil,hb];rfl)
    clear hb;go_wp2_with fail;refine HF.out.mono ?_;rintro e w2 ⟨rfl,hx2⟩;go_wp2_with fail
    go_roundg (g1-1)
    case measure=>have:=HK.out;omega
    case rel=>exact ⟨k+1,ae (by have:=HK.out;omega),by go_num,HT,ae (HX.out.trans hx2)⟩
   ·have HB:=ae (show bT p l=k from ee (d:=[]) HKL.out HA.out hb);clear hb;go_wp2_with fail;refine HF.out.mono ?_;rintro e w2 ⟨rfl,hx2⟩;go_wp2_with fail;go_ret;exact ⟨aM HB.out.symm,HX.out.trans hx2⟩
  ·have HT:=ae (show bT p l=-1 by
    have h2:=HA.out;rw [List.take_of_length_le (by rw [HL.out];have:=HK.out;omega)] at h2
    exact dw h2)
   go_wp2_with fail;go_ret;exact ⟨aM HT.out.symm,HX.out⟩
set_option maxHeartbeats 400000 in
theorem iM {w:World} {a:Option Addr} {n cap:Nat} {l:List (List (Int × Int))} {fid:FuncId} {ca:Array Value} {p:List (Int × Int)->Bool} (h:eW w a n cap l) (hg:IsGo Tryz.prog fid) (hf:AsksW Tryz.prog w fid ca p) :
 Calls Tryz.prog 207 #[.slice a n cap,.func (.func fid) #[] ca] w fun e w'=>e=.returned (.bool (l.any p))/\Ext w w':=by
 have HC:=ae (ky h hg hf);clear h hf;go_enter Tryz.func207,Tryz.ntmps207
 go_wp2_with fail;refine HC.out.mono ?_;rintro e w2 ⟨rfl,hx2⟩
 go_wp2
 all_goals go_ret;refine ⟨ag ?_,hx2⟩;rw [<-fs]
theorem pB (z:Int) {w:World} {g h:Nat} {x:Int} {m:Nat} (hx:0<=x/\x<=1000) (hm:m<=1048576) (h1:w.cell? ⟨g,2,none⟩=some (.int .i64 x)) (h2:w.cell? ⟨h,0,none⟩=some (.int .i64 (m:Int))) :
 Calls Tryz.prog 206 #[.int .i64 z,.pointer (some ⟨g,0,none⟩),.pointer (some ⟨h,0,none⟩)] w fun e w'=>e=.returned (.bool (!inB z 0 (x+(m:Int)-1)))/\Ext w w':=by
 obtain ⟨hx0,hx1⟩:=hx;go_enter Tryz.func206,Tryz.ntmps206
 go_wp2_with (first|(go_at_call 80;refine (aU _ _ _ _).mono ?_;rintro e w' ⟨rfl,rfl⟩));go_ret;exact ⟨rfl,Ext.refl _⟩
theorem oB:IsGo Tryz.prog 206:=isGo Tryz.func206 (by kernel_rfl) (by kernel_rfl)
theorem pC {w:World} {a:Option Addr} {n cap:Nat} {r:List (Int × Int)} (hr:Rats w a n cap r) {g h:Nat} {x:Int} {m:Nat} (hx:0<=x/\x<=1000) (hm:m<=1048576) (h1:w.cell? ⟨g,2,none⟩=some (.int .i64 x)) (h2:w.cell? ⟨h,0,none⟩=some (.int .i64 (m:Int))) :
 Calls Tryz.prog 208 #[.slice a n cap,.pointer (some ⟨g,0,none⟩),.pointer (some ⟨h,0,none⟩)] w fun e w'=>e=.returned (.bool (!decide ((r.length:Int)=x+(m:Int)+1)))/\Ext w w':=by
 obtain ⟨hx0,hx1⟩:=hx;have hc:=hr.hcap;have hm:=hr.hmax;have HL:=ae hr.hlen;clear hr;go_enter Tryz.func208,Tryz.ntmps208
 go_wp2_with fail;go_ret;refine ⟨ag ?_,Ext.refl _⟩;rw [HL.out];by_cases e:(n:Int)=x+(m:Int)+1
 ·rw [decide_eq_true e];simpa using e
 ·rw [decide_eq_false e];simpa using e
theorem oC:IsGo Tryz.prog 208:=isGo Tryz.func208 (by kernel_rfl) (by kernel_rfl)
theorem not_any {α:Type} (l:List α) (p:α->Bool):(!l.any fun x=>!p x)=l.all p:=by rw [List.not_any_eq_all_not];simp
theorem nz {α:Type} (l:List α) (p:α->Bool):(l.any fun x=>!p x)=!l.all p:=by rw [<-not_any,Bool.not_not]
section
variable {w:World} {ra:Option Addr} {rn rc:Nat} {ba:Option Addr} {bn bc:Nat} {t:Tb}
set_option maxHeartbeats 4000000 in
theorem fM (h:TbC w ra rn rc ba bn bc t) (hrn:rn<=1048576) :
 Calls Tryz.prog 139 #[tbW ra rn rc ba bn bc t.cols] w fun e w'=>e=.returned (.bool (tbOk t))/\Ext w w':=by
 obtain ⟨rows,basis,x⟩:=t;have hx0:=(Ext.alloc w (bp ra rn rc ba bn bc x)).trans (Ext.alloc _ (.cells #[.int .i64 (rn:Int)] 3));have HX0:=ae hx0;have H:=ae (h.ext hx0);have hr1:=h.rows.hcap;have hr2:=h.rows.hmax;have hb1:=h.basis.hcap;have hb2:=h.basis.hmax;have HLR:=ae h.rows.hlen;have HLB:=ae h.basis.hlen
 have HE:=ae (show tbOk ⟨rows,basis,x⟩=(inB x 0 1000&&(decide (bn=rn)&&(basis.all (fun b=>inB b 0 (x+(rn:Int)-1))&&rows.all (fun r=>decide ((r.length:Int)=x+(rn:Int)+1))))) by
  unfold tbOk;simp only
  rw [h.rows.hlen,h.basis.hlen])
 clear h hx0
 show Calls _ _ #[tbW ra rn rc ba bn bc x] w _;have HW:=ae (fun w=>aU x 0 1000 w);cases hin:inB x 0 1000
 ·rw [hin] at HW HE;clear hin;go_enter Tryz.func139,Tryz.ntmps139
  go_wp2_with fail;refine (HW.out _).mono ?_;rintro e w1 ⟨rfl,rfl⟩;go_wp2_with fail;go_ret;exact ⟨ag HE.out.symm,HX0.out⟩
 ·have hxb:0<=x/\x<=1000:=by unfold inB at hin;simp at hin;exact hin
  have HXB:=ae hxb;rw [hin] at HW HE;clear hin hxb;by_cases hbr:bn=rn
  ·subst hbr;have hbb:((bn:Int) != (bn:Int))=false:=by simp
   have HE2:=ae (show tbOk ⟨rows,basis,x⟩=(basis.all (fun b=>inB b 0 (x+(bn:Int)-1))&&rows.all (fun r=>decide ((r.length:Int)=x+(bn:Int)+1))) by rw [HE.out,decide_eq_true rfl];rfl);have HC1:=ae (dL (ca:=#[.pointer (some ⟨w.heap.size,0,none⟩),.pointer (some ⟨w.heap.size+1,0,none⟩)]) H.out.basis oB (p:=fun b=>!inB b 0 (x+(bn:Int)-1)) (fun z w1 hx=>pB z HXB.out hrn (hx.cellSome (by simp)) (hx.cellSome (by simp))));rw [nz] at HC1;cases hb:basis.all (fun b=>inB b 0 (x+(bn:Int)-1))
   ·rw [hb] at HC1 HE2;clear hb;go_enter Tryz.func139,Tryz.ntmps139
    go_wp2_with fail;refine (HW.out _).mono ?_;rintro e w1 ⟨rfl,rfl⟩;go_wp2_with fail;refine HC1.out.mono ?_;rintro e w2 ⟨rfl,hx⟩;have X2:=ae (HX0.out.trans hx);clear hx;go_wp2_with fail;go_ret;exact ⟨ag HE2.out.symm,X2.out⟩
   ·rw [hb] at HC1 HE2;clear hb;go_enter Tryz.func139,Tryz.ntmps139
    go_wp2_with fail;refine (HW.out _).mono ?_;rintro e w1 ⟨rfl,rfl⟩;go_wp2_with fail;refine HC1.out.mono ?_;rintro e w2 ⟨rfl,hx⟩;have HC2:=ae (iM (ca:=#[.pointer (some ⟨w.heap.size,0,none⟩),.pointer (some ⟨w.heap.size+1,0,none⟩)]) (H.out.ext hx).rows oC (p:=fun r=>!decide ((r.length:Int)=x+(bn:Int)+1)) (fun a n cap r w1 hx2 hr=>pC hr HXB.out hrn ((hx.trans hx2).cellSome (by simp)) ((hx.trans hx2).cellSome (by simp))));rw [nz] at HC2;have hq:w2.cell? ⟨w.heap.size,0,none⟩=some (.slice ra bn rc):=hx.cellSome (by simp);have X2:=ae (HX0.out.trans hx);clear hx;go_wp2_with fail;refine HC2.out.mono ?_;rintro e w3 ⟨rfl,hx⟩;have X3:=ae (X2.out.trans hx);clear hx;go_wp2_with fail;go_ret;exact ⟨ag (by rw [HE2.out];simp),X3.out⟩
  ·have hbb:((bn:Int) != (rn:Int))=true:=by simp;omega
   have HF:=ae (show tbOk ⟨rows,basis,x⟩=false by rw [HE.out,decide_eq_false hbr];rfl);go_enter Tryz.func139,Tryz.ntmps139
   go_wp2_with fail;refine (HW.out _).mono ?_;rintro e w1 ⟨rfl,rfl⟩;go_wp2_with fail;go_ret;exact ⟨ag HF.out.symm,HX0.out⟩
set_option maxHeartbeats 8000000 in
theorem gL (h:TbC w ra rn rc ba bn bc t) (hrn:rn<=1048576) (hbn:bn<=1048576) (hrl:∀ i,i<rn->(t.row i).length<=1048576) :
 Calls Tryz.prog 140 #[tbW ra rn rc ba bn bc t.cols] w fun e w'=>(∃ va vb vs,e=.returned (.agg #[va,vb,.int .i64 t.cols])/\OwnT w' w.heap.size va vb vs t)/\Ext w w':=by
 obtain ⟨rows,basis,x⟩:=t;have hx0:=(Ext.alloc w (bp ra rn rc ba bn bc x)).trans (Ext.alloc _ (.cells #[.slice none 0 0,.slice none 0 0,.int .i64 0] 83));obtain ⟨W,hW⟩:∃ W,W=(w.alloc (bp ra rn rc ba bn bc x)).alloc (.cells #[.slice none 0 0,.slice none 0 0,.int .i64 0] 83):=⟨_,rfl⟩;rw [<-hW] at hx0;have HX0:=ae hx0;have H:=ae (h.ext hx0);have hr1:=h.rows.hcap;have hr2:=h.rows.hmax;have HLR:=ae h.rows.hlen;have HRL:=ae hrl;have p0:W.cell? ⟨w.heap.size,0,none⟩=some (.slice ra rn rc):=by rw [hW];simp
 have p1:W.cell? ⟨w.heap.size,1,none⟩=some (.slice ba bn bc):=by rw [hW];simp
 have p2:W.cell? ⟨w.heap.size,2,none⟩=some (.int .i64 x):=by rw [hW];simp
 have HGB:=ae (show W.heap[w.heap.size+1]?=some (.cells #[.slice none 0 0,.slice none 0 0,.int .i64 0] 83 (0,0)) by rw [hW];exact aj _ _ _ (by simp));have HSW:=ae (show W.heap.size=w.heap.size+1+1 by rw [hW];simp);clear h hx0 hrl
 show Calls _ _ #[tbW ra rn rc ba bn bc x] w _;go_enter Tryz.func140,Tryz.ntmps140
 go_upto_region 1 with fail;rw [<-hW];clear hW
 go_cut [3] (fun s wx=>∃ (g:Nat) (a3:Option Addr) (n3 c3:Nat),s=.pointer (some ⟨g,0,none⟩)/\Hid (TbO wx W.heap.size g (.slice none 0 0) (.slice a3 n3 c3) x [] [] basis)/\Hid (Ext W wx))
 case first =>
  have hk2:Ext W W.drew:=Ext.drew W;have hka:Ext W (W.alloc (.cells #[.slice none 0 0,.slice none 0 0,.int .i64 0] 83)).drew:=(Ext.alloc _ _).trans (Ext.drew _);have HKEEP:=ae (fun (w':World) (h:Ext W w')=>(⟨h.cellSome p0,h.cellSome p1,h.cellSome p2,h⟩:w'.cell? ⟨w.heap.size,0,none⟩=some (.slice ra rn rc)/\w'.cell? ⟨w.heap.size,1,none⟩=some (.slice ba bn bc)/\w'.cell? ⟨w.heap.size,2,none⟩=some (.int .i64 x)/\Ext W w'))
  go_region_held3 (fun w'=>w'.cell? ⟨w.heap.size,0,none⟩=some (.slice ra rn rc)/\w'.cell? ⟨w.heap.size,1,none⟩=some (.slice ba bn bc)/\w'.cell? ⟨w.heap.size,2,none⟩=some (.int .i64 x)/\Ext W w')
   (first
     | with_reducible exact HKEEP.out _ hk2
     | with_reducible exact HKEEP.out _ hka
     | with_reducible exact HKEEP.out _ (hk2.trans (Ext.alloc _ _))
     | with_reducible exact HKEEP.out _ (((hk2.setCell (Nat.le_refl _) _).setCell (Nat.le_refl _) _).setCell (Nat.le_refl _) _))
   (first
     | (go_at_call 109
        (with_reducible refine (jy (H.out.ext (by first|with_reducible exact hk2|with_reducible exact hka|with_reducible exact hk2.trans (Ext.alloc _ _))).basis (by omega)).mono ?_)
        rintro e w3 ⟨v3,rfl,ho3,hx3⟩;obtain ⟨a3,n3,c3,rfl,hn3⟩:=ho3.var
        first|(
           have hB0:w3.heap[W.heap.size]?=some (.cells #[.slice none 0 0,.slice none 0 0,.int .i64 0] 83 (0,0)):=Ext.blk hx3 (show (W.alloc (.cells #[.slice none 0 0,.slice none 0 0,.int .i64 0] 83)).drew.heap[W.heap.size]?=_ from heap_alloc_new W _);have b0_:=al hB0;have b1_:=am hB0;have b2_:=ap hB0;have bf_:=bK hB0;have HB0:=ae hB0
           clear hB0)|skip
        have hk2:Ext W w3:=by first|with_reducible exact hk2.trans hx3|with_reducible exact hka.trans hx3
        have hk2s:=hk2.size)
     | fail)
  all_goals
   go_wp2_with fail;go_meet
  ·exact ⟨_,a3,n3,c3,rfl,ae (TbO.new ho3 (Nat.le_refl _) hk2s),ae (hk2.trans (Ext.alloc _ _))⟩
  ·exact ⟨_,a3,n3,c3,rfl,ae (TbO.put3 HB0.out ho3 hka.size (Nat.le_refl _)),ae (((hk2.setCell (Nat.le_refl _) _).setCell (Nat.le_refl _) _).setCell (Nat.le_refl _) _)⟩
 obtain ⟨g,a3,n3,c3,rfl,HT,HX1⟩:=hcut;replace p0:=HX1.out.cellSome p0;clear p1 p2;go_wp2_with fail
 go_loopg [15] rn (fun gk ii wr=>∃ (k:Nat) (va:Value) (vs:List Value),Hid (gk+k=rn)/\ii=.int .i64 (k:Int)/\Hid (TbO wr W.heap.size g va (.slice a3 n3 c3) x vs (rows.take k) basis)/\Hid (Ext W wr))
 case atStart=>exact ⟨0,_,_,ae (by omega),rfl,HT,HX1⟩
 case round =>
  obtain ⟨g1,h_g1⟩:∃ x,x=gk:=⟨_,rfl⟩;subst h_g1;obtain ⟨wr1,h_wr1⟩:∃ x,x=wr:=⟨_,rfl⟩;subst h_wr1;obtain ⟨k,va,vs,HK,rfl,T,HX⟩:=hrel;clear p0;by_cases hlt:k<rn
  ·obtain ⟨zb,zoff,za,zn,zc,hza,hz0,hrow⟩:=(H.out.ext HX.out).rows.at hlt;subst hza;have hzn:zn<=1048576:=by rw [<-hrow.hlen];exact HRL.out k hlt
   have HROW:=ae hrow;have t0:=al T.out.box;have hgl:=T.out.lt;have hsx:=HX.out.size;have HVL:=ae (show vs.length=k by rw [T.out.rows.len,List.length_take];have h2:rows.length=rn:=HLR.out;omega);clear hrow;go_upto_region 5 with fail
   go_region_law (first
    | (refine bH _ rfl (dB _ _ rfl W.heap.size va vs rfl ((T.out.ext HX5.out).a.ext (Ext.alloc _ _)) _ _ 1 rfl (by first|(simp;done)|(simp;rfl)) rfl (by have:=HVL.out;omega) (by first|(simp;done)|(simp;omega)) ?_);intro v6 w6 ho6 hg6 hn6;have hbx:=T.out.boxA (HX5.out.trans (Ext.alloc _ _)) hg6;have c0:=al hbx;have cf:=bK hbx;obtain ⟨a6,n6,c6,rfl,HN6⟩:=ho6.var;have HO6:=ae ho6;have HG6:=ae hg6;clear ho6 hg6 hn6 hbx)
    | (go_simp;go_at_call 209;refine (jz (HROW.out.ext (Ext.drew _)) (by omega)).mono ?_;rintro e w5 ⟨v5,rfl,ho5,hx5⟩;obtain ⟨a5,n5,c5,rfl,HN5⟩:=ho5.var;have HX5:=ae ((Ext.drew wr1).trans hx5);have HO5:=ae ho5;have hs5:=HX5.out.size;have hg5:g<w5.heap.size:=(by omega);replace t0:=HX5.out.cellSome t0;clear ho5 hx5))
   all_goals
    go_wp2_with fail;have HTN:=ae (T.out.pushA (HX5.out.trans (Ext.alloc _ _)) (HO5.out.ext (Ext.alloc _ _)) hsx HG6.out HO6.out);have HXN:=ae ((aq ((HX.out.trans HX5.out).trans (Ext.alloc _ _)) HG6.out (fun i hi=>(T.out.a.lt i hi).1)).setCell (p:=⟨g,0,none⟩) T.out.hg (.slice a6 n6 c6))
    go_roundg (g1-1)
    case measure=>have:=HK.out;omega
    case rel=>exact ⟨k+1,_,_,ae (by have:=HK.out;omega),by go_num,ae (by have:=HTN.out;rw [<-dR (by have h2:rows.length=rn:=HLR.out;omega)] at this;exact this),HXN⟩
  ·have hkn:rn=k:=by have:=HK.out;omega
   subst hkn;have HTT:=ae (show rows.take rn=rows from List.take_of_length_le (Nat.le_of_eq HLR.out));have HTN:=ae (show TbO wr1 W.heap.size g va (.slice a3 n3 c3) x vs rows basis by have:=T.out;rw [HTT.out] at this;exact this);have t0:=al T.out.box;have t1:=am T.out.box;have t2:=ap T.out.box;obtain ⟨a7,n7,c7,rfl,HN7⟩:=T.out.a.var;have q0:=HX.out.blk HGB.out;have r0:=al q0;have r1:=am q0;have r2:=ap q0;have rf:=bK q0;have hww:=HSW.out;have hsx:=HX.out.size;clear q0;go_wp2_with fail;refine bodyPost_ret (v:=.agg #[.slice a7 n7 c7,.slice a3 n3 c3,.int .i64 x]) (by simp [results,Tryz.results140,go_sem,r0,r1,r2,rf]) rfl ⟨⟨_,_,vs,rfl,?_⟩,?_⟩
   ·exact (HTN.out.own.keepAll fun k hk=>aV _ _ _ _ _ _ (by omega)).mono (by omega)
   ·exact (HX0.out.trans HX.out).set3 (Nat.le_succ _) _ _ _
end
end Go.Proofs.YthjjfkeacobikaaGreat
namespace Go.Proofs.YthjjfkeacobikaaGreat
open Go.RowKit
set_option maxHeartbeats 2000000 in
theorem dM (x y:Int) (w:World) (h0:-9223372036854775807<=x) (h1:x<=9223372036854775807) :
 Calls Tryz.prog 137 #[ratV x y] w fun e w'=>e=.returned (ratV (-x) y)/\Ext w w':=by
 go_enter Tryz.func137,Tryz.ntmps137
 go_wp2_with fail;refine bodyPost_ret (v:=ratV (-x) y) (by simp [results,Tryz.results137,go_sem]) rfl ⟨rfl,?_⟩;exact (Ext.alloc _ _).trans (Ext.alloc _ _)
set_option maxHeartbeats 2000000 in
theorem eu (x y:Int) (w:World) (h0:-9223372036854775807<=x) (h1:x<=9223372036854775807) :
 Calls Tryz.prog 88 #[ratV x y] w fun e w'=>e=.returned (ratV (-x) y)/\Ext w w':=by
 go_enter Tryz.func88,Tryz.ntmps88
 go_wp2_with fail;refine bodyPost_ret (v:=ratV (-x) y) (by simp [results,Tryz.results88,go_sem]) rfl ⟨rfl,?_⟩;exact (Ext.alloc _ _).trans (Ext.alloc _ _)
end Go.Proofs.YthjjfkeacobikaaGreat
