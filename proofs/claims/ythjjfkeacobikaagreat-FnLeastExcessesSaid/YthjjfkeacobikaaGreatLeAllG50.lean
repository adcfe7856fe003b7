import Derived.Test.YthjjfkeacobikaaGreatLeAllG48
import Derived.Test.YthjjfkeacobikaaGreatLeAllG15
import Derived.Test.YthjjfkeacobikaaGreatLeAllG49
import Derived.Test.YthjjfkeacobikaaGreatLeAllG30
import Derived.Test.YthjjfkeacobikaaGreatLeAllG47
import Derived.Test.YthjjfkeacobikaaGreatLeAllG45
import Derived.Test.YthjjfkeacobikaaGreatLeAllG46
import Derived.Test.YthjjfkeacobikaaGreatLeAllG37
import Derived.Test.YthjjfkeacobikaaGreatLeAllG11
set_option linter.unusedVariables false
set_option linter.unusedSimpArgs false
namespace Go.Proofs.YthjjfkeacobikaaGreat
set_option maxRecDepth 100000
open Go.RowKit
theorem kf:∀ {a b:List (Int × Int)},(∀ x ∈ a,valR x=true)->(∀ x ∈ b,valR x=true)->a.map val=b.map val->a=b
 | [],[],_,_,_=>rfl
 | [],_ :: _,_,_,h=>by cases h
 | _ :: _,[],_,_,h=>by cases h
 | x :: a,y :: b,ha,hb,h=>by
   simp only [List.map_cons,List.cons.injEq] at h;rw [iE (ha x List.mem_cons_self) (hb y List.mem_cons_self) h.1,kf (fun z hz=>ha z (List.mem_cons_of_mem _ hz)) (fun z hz=>hb z (List.mem_cons_of_mem _ hz)) h.2]
theorem oS {p:Int} {V:List Int} (h:(nucR p V).ok=true):aN p V=true:=by
 cases hg:aN p V with
 | true=>rfl
 | false=>unfold nucR at h;rw [if_neg (by rw [hg];simp)] at h;cases h
theorem pu {l:List (Int × Int)} (h:∀ y ∈ l,valR y=true):∀ y ∈ srtX l,valR y=true:=fun y hy=>h y ((eM l).mem_iff.1 hy)
theorem rH (o:Bool) (l:List (Int × Int)) (r:List (Int × Int × Int)) (x:Int):gO o l r x o l r x=true:=by unfold gO;simp
theorem cN_one:cN 1=2:=by decide
theorem sW {p:Int} {V:List Int} {X:List (Int × Int)} (hok:(nucR p V).ok=true) (hl:0<(srtX ((allX p V X).getD [])).length) :
 ¬ 0<cmpX (srtX ((allX p V (nucR p V).pt).getD [])) (srtX ((allX p V X).getD [])):=by
 cases hb:allX p V X with
 | none=>rw [hb] at hl;simp [ib] at hl
 | some b =>
   cases ha:allX p V (nucR p V).pt with
   | none =>
     have:srtX ((none:Option (List (Int × Int))).getD [])=[]:=List.eq_nil_of_length_eq_zero (by rw [ib];rfl);rw [this];exact nY _
   | some a =>
     rw [hb] at hl;simp only [Option.getD_some] at hl ⊢;have va:=fM ha;have vb:=fM hb;have hp1:p ≠ 1:=by
      intro e;obtain ⟨q,hq,_,_,hlen,_⟩:=bd (oS hok);have h2:=(dQ hb).2;rw [ib] at hl;have:q=1:=by omega
      subst this;rw [hlen,cN_one] at h2;omega
     refine qb (pu va) (pu vb) ?_
     rcases nuc_all hp1 hok ha hb with h|h
     ·rw [kf va vb h];exact .inl rfl
     ·exact .inr h
theorem sX {p:Int} {V:List Int} (hok:(nucR p V).ok=true) (h2:2<=p) (hs:(bW p V).status=1) (hl:(srtX ((allX p V (nucR p V).pt).getD [])).length ≠ 0) :
 (srtX ((allX p V (nucR p V).pt).getD []))[0]?.getD (0,0)=negR (bW p V).value:=by
 cases ha:allX p V (nucR p V).pt with
 | none=>rw [ha] at hl;simp [ib] at hl
 | some a=>exact (pR h2 hok ha hs).2
theorem rl {p:Int} {V:List Int} {X:List (Int × Int)} {m:Nat} (hm:V.length=m) (h17:m<=17) (hok:(nucR p V).ok=true) (hx:et p V X=true):et p V (nucR p V).pt=true:=by
 refine nuc_core ?_ hok hx;obtain ⟨q,hq,h1,h5,hlen,_⟩:=bd (oS hok);have:q ≠ 5:=by
  intro e;subst e;have:cN 5=32:=by decide
  omega
 omega
set_option maxHeartbeats 16000000 in
theorem jV {w:World} {a:Option Addr} {n cap:Nat} (h:eF w a n cap) :
 Calls Tryz.prog 7 #[.slice a n cap] w fun e w'=>e=.returned (.bool true)/\Ext w w':=by
 have hcap:=h.hcap;have hmax:=h.hmax;have H:=ae h;clear h;by_cases hbig:1048576<n
 ·go_enter Tryz.func7,Tryz.ntmps7
  go_wp2_with fail;go_in;go_wp2_with fail;go_ret;exact ⟨rfl,Ext.refl _⟩
 have hb:n<=1048576:=by omega
 go_enter Tryz.func7,Tryz.ntmps7
 go_wp2_with fail;go_in;go_wp2_with fail;refine (jx H.out hb).mono ?_;rintro e w1 ⟨⟨x,b,m,c,V,pb,pm,pc,X,rfl,hV,hP,hm⟩,hx⟩;obtain ⟨W,hW⟩:∃ W,W=w1.alloc (.cells #[.int .i64 x,.slice b m c] 29):=⟨_,rfl⟩;have hxW:Ext w1 W:=by rw [hW];exact Ext.alloc _ _
 have XA:=ae (hx.trans hxW);have HV:=ae (hV.ext hxW);have HP:=ae (hP.ext hxW);have HVL:=ae hV.hlen;have g0:W.cell? ⟨w1.heap.size,0,none⟩=some (.int .i64 x):=by rw [hW];simp
 have g1:W.cell? ⟨w1.heap.size,1,none⟩=some (.slice b m c):=by rw [hW];simp
 clear hV hP hx hxW;go_upto_region 4 with fail;rw [<-hW];clear hW;generalize w1.heap.size=bg at g0 g1 ⊢;go_wp2_with fail;refine (ln (p:=x) HV.out).mono ?_;obtain ⟨NR,hNR⟩:∃ R,R=nucR x V:=⟨_,rfl⟩;rw [<-hNR];have HNR:=ae hNR;clear hNR;obtain ⟨ro,rp,rs,rk⟩:=NR;have HPT:=ae (show (nucR x V).pt=rp by rw [<-HNR.out]);have HOK:=ae (show (nucR x V).ok=ro by rw [<-HNR.out]);rintro e w2 ⟨⟨na,nn,nc,sa,sn,sc,rfl,hpt,hst⟩,hx⟩;obtain ⟨W2,hW2⟩:∃ W,W=w2.alloc (.cells #[.bool ro,.slice na nn nc,.slice sa sn sc,.int .i64 (rk:Int)] 73):=⟨_,rfl⟩;have hxW:Ext w2 W2:=by rw [hW2];exact Ext.alloc _ _
 have X2:=ae (hx.trans hxW);have HP2:=ae (hpt.rats.ext hxW);have HS2:=ae (hst.fixs.ext hxW);have n0:W2.cell? ⟨w2.heap.size,0,none⟩=some (.bool ro):=by rw [hW2];simp
 have n1:W2.cell? ⟨w2.heap.size,1,none⟩=some (.slice na nn nc):=by rw [hW2];simp
 have n2:W2.cell? ⟨w2.heap.size,2,none⟩=some (.slice sa sn sc):=by rw [hW2];simp
 have n3:W2.cell? ⟨w2.heap.size,3,none⟩=some (.int .i64 (rk:Int)):=by rw [hW2];simp
 replace g0:=X2.out.cellSome g0;replace g1:=X2.out.cellSome g1;clear hx hxW hpt hst;go_upto_region 5 with fail;rw [<-hW2];clear hW2;generalize w2.heap.size=bn at n0 n1 n2 n3 ⊢;have HKK:=ae (fun (w':World) (h:Ext W2 w')=>(⟨h.cellSome g0,h.cellSome g1,h.cellSome n0,h.cellSome n1,h.cellSome n2,h.cellSome n3⟩:w'.cell? ⟨bg,0,none⟩=some (.int .i64 x)/\w'.cell? ⟨bg,1,none⟩=some (.slice b m c)/\w'.cell? ⟨bn,0,none⟩=some (.bool ro)/\w'.cell? ⟨bn,1,none⟩=some (.slice na nn nc)/\w'.cell? ⟨bn,2,none⟩=some (.slice sa sn sc)/\w'.cell? ⟨bn,3,none⟩=some (.int .i64 (rk:Int))));have hk2:Ext W2 W2.drew:=Ext.drew W2;have HLN:=ae (fun (w':World) (h:Ext W2 w')=>lQ (p:=x) (HV.out.ext (X2.out.trans h)));rw [<-HNR.out] at HLN;clear g0 g1 n0 n1 n2 n3;refine wp_region_held_drew (S:=(fun w'=>w'.cell? ⟨bg,0,none⟩=some (.int .i64 x)/\w'.cell? ⟨bg,1,none⟩=some (.slice b m c)/\w'.cell? ⟨bn,0,none⟩=some (.bool ro)/\w'.cell? ⟨bn,1,none⟩=some (.slice na nn nc)/\w'.cell? ⟨bn,2,none⟩=some (.slice sa sn sc)/\w'.cell? ⟨bn,3,none⟩=some (.int .i64 (rk:Int)))) (by kernel_rfl) ?_ (fun hHeld=>?_)
 ·exact HKK.out _ hk2
 refine tk 0 ?_;refine tk 1 ?_;refine rd (i:=2) (h:=fun K hK=>?_);go_simp;refine (HLN.out _ hk2).mono ?_;rintro e w10 ⟨⟨pa',pn',pc',sa',sn',sc',rfl,hpt,hst⟩,hx⟩;have hk10:=hk2.trans hx;have HEQ:=ae (kF (o:=ro) (o':=ro) (x:=(rk:Int)) (x':=(rk:Int)) (HP2.out.ext hk10) (HS2.out.ext hk10) hpt.rats hst.fixs);rw [rH] at HEQ;clear hx hpt hst;go_wp2_with fail;refine hK.out _ _ ?_ (fun hHeld=>?_)
 ·exact HKK.out _ hk10
 clear hK K
 try simp only [Act.put,sA,sB,sC]
 refine rd (i:=3) (h:=fun K hK=>?_);go_simp;refine HEQ.out.mono ?_;rintro e w11 ⟨rfl,hx⟩;have hk11:=hk10.trans hx;clear hx;go_wp2_with fail;refine hK.out _ _ ?_ (fun hHeld=>?_)
 ·exact HKK.out _ hk11
 clear hK K
 try simp only [Act.put,sA,sB,sC]
 refine tk 4 ?_;refine wpAnyH_done (by kernel_rfl) ?_ _;obtain ⟨g0,g1,n0,n1,n2,n3⟩:=HKK.out _ hk11;have X11:=ae (XA.out.trans (X2.out.trans hk11));have HV11:=ae (HV.out.ext (X2.out.trans hk11));have HP11:=ae (HP.out.ext (X2.out.trans hk11));have HN11:=ae (HP2.out.ext hk11);clear hk2 hk10 hk11 HEQ HLN hHeld HKK n2 n3 HS2 HP2 X2 XA HV HP;cases ro with
 | false =>
   go_wp2_with fail;go_ret;exact ⟨rfl,X11.out⟩
 | true =>
   go_wp2_with fail;have HEA:=ae (iA (p:=x) HV11.out HN11.out);refine HEA.out.mono ?_;obtain ⟨A,hA⟩:∃ l,l=srtX ((allX x V rp).getD []):=⟨_,rfl⟩;rw [<-hA];have HAA:=ae hA;rintro e w3 ⟨⟨v,rfl,ho⟩,hx⟩;obtain ⟨a3,n6,c3,rfl,HN3⟩:=ho.var;have hn31:=ho.rats.hcap;have hn32:=ho.rats.hmax;have R3:=ae ho.rats;have X3:=ae hx;replace g0:=hx.cellSome g0;replace g1:=hx.cellSome g1;replace n1:=hx.cellSome n1;clear ho hx HEA n0 hA;go_wp2_with fail;have HEB:=ae (iA (p:=x) (HV11.out.ext X3.out) (HP11.out.ext X3.out));refine HEB.out.mono ?_;obtain ⟨B,hB⟩:∃ l,l=srtX ((allX x V X).getD []):=⟨_,rfl⟩;rw [<-hB];have HBB:=ae hB;rintro e w4 ⟨⟨v,rfl,ho⟩,hx⟩;obtain ⟨a4,n7,c4,rfl,HN4⟩:=ho.var;have hn41:=ho.rats.hcap;have hn42:=ho.rats.hmax;have R4:=ae ho.rats;have R34:=ae (R3.out.ext hx);have X4:=ae (X3.out.trans hx);have HV4:=ae (HV11.out.ext (X3.out.trans hx));have HP4:=ae (HP11.out.ext (X3.out.trans hx));have HN44:=ae (HN11.out.ext (X3.out.trans hx));replace g0:=hx.cellSome g0;replace g1:=hx.cellSome g1;replace n1:=hx.cellSome n1;clear ho hx HEB hB R3 X3 HV11 HP11 HN11;go_upto_region 11 with fail;obtain ⟨pay,hpay⟩:∃ o,o=payP x V X:=⟨_,rfl⟩;have HPAY:=ae hpay;obtain ⟨cr,hcr⟩:∃ o,o=et x V X:=⟨_,rfl⟩;have HCR:=ae hcr;have HPY:=ae (fun (w':World) (h:Ext w4 w')=>lR (p:=x) (HV4.out.ext h) (HP4.out.ext h));rw [<-HPAY.out] at HPY
   have HIC:=ae (fun (w':World) (h:Ext w4 w')=>oZ (p:=x) (HV4.out.ext h) (HP4.out.ext h));rw [<-HCR.out] at HIC;have HID:=ae (fun (w':World) (h:Ext w4 w')=>oZ (p:=x) (HV4.out.ext h) (HN44.out.ext h));have HCC:=ae (fun h:cr=true=>show et x V rp=true by rw [<-HPT.out];exact rl HVL.out hm HOK.out (by rw [<-HCR.out];exact h));clear hpay hcr
   go_cut [58] (fun v wx=>v=.bool false/\Hid (Ext w4 wx))
   case first =>
    by_cases h7:0<n7
    ·have h7i:0<(n7:Int):=by omega
     have HCE:=ae (jU R34.out R4.out);obtain ⟨cv,hcv⟩:∃ v,v=cmpX A B:=⟨_,rfl⟩;rw [<-hcv] at HCE;have hcn:¬ 0<cv:=by
      rw [hcv,HAA.out,HBB.out,<-HPT.out];exact sW HOK.out (by rw [<-HBB.out,HN4.out];exact h7)
     clear hcv;go_wp2_with fail;refine HCE.out.mono ?_;rintro e w5 ⟨rfl,hx⟩;have X5:=ae hx;replace g0:=hx.cellSome g0;replace g1:=hx.cellSome g1;replace n1:=hx.cellSome n1;clear hx HCE;cases pay with
     | false =>
       go_wp2_with fail;refine (HPY.out _ X5.out).mono ?_;rintro e w6 ⟨rfl,hx⟩;have XN:=ae (X5.out.trans hx);clear hx;go_wp2_with fail;go_meet;exact ⟨by first|rfl|rw [decide_eq_false (by omega)],XN⟩
     | true =>
       go_wp2_with fail;refine (HPY.out _ X5.out).mono ?_;rintro e w6 ⟨rfl,hx⟩;have XM:=ae (X5.out.trans hx);replace g0:=hx.cellSome g0;replace g1:=hx.cellSome g1;replace n1:=hx.cellSome n1;clear hx;cases cr with
       | false =>
         go_wp2_with fail;refine (HIC.out _ XM.out).mono ?_;rintro e w7 ⟨rfl,hx⟩;have XN:=ae (XM.out.trans hx);clear hx;go_wp2_with fail;go_meet;exact ⟨by first|rfl|rw [decide_eq_false (by omega)],XN⟩
       | true =>
         have hcc:=HCC.out rfl;rw [hcc] at HID;clear hcc;go_wp2_with fail;refine (HIC.out _ XM.out).mono ?_;rintro e w7 ⟨rfl,hx⟩;have XN:=ae (XM.out.trans hx);replace g0:=hx.cellSome g0;replace g1:=hx.cellSome g1;replace n1:=hx.cellSome n1;clear hx;go_wp2_with fail;refine (HID.out _ XN.out).mono ?_;rintro e w8 ⟨rfl,hx⟩;have XO:=ae (XN.out.trans hx);clear hx;go_wp2_with fail;go_meet;exact ⟨by first|rfl|rw [decide_eq_false (by omega)],XO⟩
    ·have h7i:¬ 0<(n7:Int):=by omega
     have X5:=ae (Ext.refl w4);cases pay with
     | false =>
       go_wp2_with fail;refine (HPY.out _ X5.out).mono ?_;rintro e w6 ⟨rfl,hx⟩;have XN:=ae (X5.out.trans hx);clear hx;go_wp2_with fail;go_meet;exact ⟨by first|rfl|rw [decide_eq_false (by omega)],XN⟩
     | true =>
       go_wp2_with fail;refine (HPY.out _ X5.out).mono ?_;rintro e w6 ⟨rfl,hx⟩;have XM:=ae (X5.out.trans hx);replace g0:=hx.cellSome g0;replace g1:=hx.cellSome g1;replace n1:=hx.cellSome n1;clear hx;cases cr with
       | false =>
         go_wp2_with fail;refine (HIC.out _ XM.out).mono ?_;rintro e w7 ⟨rfl,hx⟩;have XN:=ae (XM.out.trans hx);clear hx;go_wp2_with fail;go_meet;exact ⟨by first|rfl|rw [decide_eq_false (by omega)],XN⟩
       | true =>
         have hcc:=HCC.out rfl;rw [hcc] at HID;clear hcc;go_wp2_with fail;refine (HIC.out _ XM.out).mono ?_;rintro e w7 ⟨rfl,hx⟩;have XN:=ae (XM.out.trans hx);replace g0:=hx.cellSome g0;replace g1:=hx.cellSome g1;replace n1:=hx.cellSome n1;clear hx;go_wp2_with fail;refine (HID.out _ XN.out).mono ?_;rintro e w8 ⟨rfl,hx⟩;have XO:=ae (XN.out.trans hx);clear hx;go_wp2_with fail;go_meet;exact ⟨by first|rfl|rw [decide_eq_false (by omega)],XO⟩
   obtain ⟨rfl,XC⟩:=hcut;have X6:=ae (X4.out.trans XC.out);have R6:=ae (R34.out.ext XC.out);have HV6:=ae (HV4.out.ext XC.out);replace g0:=XC.out.cellSome g0;replace g1:=XC.out.cellSome g1;clear XC n1 HPY HIC HID HCC R34 R4 HV4 HP4 HN44 X4;go_wp2_with fail;refine (lP (p:=x) HV6.out).mono ?_;rintro e w7 ⟨⟨o,ex,ey,qa,qn,qc,wa,wn,wcc,rfl,hls⟩,hx⟩;obtain ⟨W7,hW7⟩:∃ W,W=w7.alloc (.cells #[.bool o,.int .i64 ex,.int .i64 ey,.slice qa qn qc,.slice wa wn wcc] 94):=⟨_,rfl⟩;have hxW:Ext w7 W7:=by rw [hW7];exact Ext.alloc _ _
   have X7:=ae ((X11.out.trans X6.out).trans (hx.trans hxW));have R7:=ae (R6.out.ext (hx.trans hxW));have l0:W7.cell? ⟨w7.heap.size,0,none⟩=some (.bool o):=by rw [hW7];simp
   have l1:W7.cell? ⟨w7.heap.size,1,none⟩=some (.int .i64 ex):=by rw [hW7];simp
   have l2:W7.cell? ⟨w7.heap.size,2,none⟩=some (.int .i64 ey):=by rw [hW7];simp
   clear hx hxW g0 g1;go_upto_region 14 with fail;rw [<-hW7];clear hW7;generalize w7.heap.size=bl at l0 l1 l2 ⊢;cases o with
   | false =>
     have hkd:Ext W7 W7.drew:=Ext.drew W7;have HKB:=ae (hkd.cellSome l0);refine wp_region_held_drew (S:=(fun w'=>w'.cell? ⟨bl,0,none⟩=some (.bool false))) (by kernel_rfl) ?_ (fun hHeld=>?_)
     ·exact HKB.out
     refine tk 0 ?_;refine tk 1 ?_;refine tk 2 ?_;refine tk 3 ?_;refine sk 4 ?_;refine sk 5 ?_;refine sk 6 ?_;refine tk 7 ?_;refine tk 8 ?_;refine sk 9 ?_;refine sk 10 ?_;refine sk 11 ?_;refine sk 12 ?_;refine sk 13 ?_;refine sk 14 ?_;refine tk 15 ?_;refine tk 16 ?_;refine wpAnyH_done (by kernel_rfl) ?_ _;go_wp2_with fail;go_ret;exact ⟨rfl,X7.out.trans hkd⟩
   | true =>
     obtain ⟨hgk,hp2,hst,hex⟩:=hls rfl;by_cases h6:n6=0
     ·subst h6;have hkd:Ext W7 W7.drew:=Ext.drew W7;have HKB:=ae (hkd.cellSome l0);refine wp_region_held_drew (S:=(fun w'=>w'.cell? ⟨bl,0,none⟩=some (.bool true))) (by kernel_rfl) ?_ (fun hHeld=>?_)
      ·exact HKB.out
      refine tk 0 ?_;refine tk 1 ?_;refine tk 2 ?_;refine tk 3 ?_;refine tk 4 ?_;refine tk 5 ?_;refine tk 6 ?_;refine tk 7 ?_;refine tk 8 ?_;refine sk 9 ?_;refine sk 10 ?_;refine sk 11 ?_;refine sk 12 ?_;refine sk 13 ?_;refine sk 14 ?_;refine tk 15 ?_;refine tk 16 ?_;refine wpAnyH_done (by kernel_rfl) ?_ _;go_wp2_with fail;go_ret;exact ⟨rfl,X7.out.trans hkd⟩
     ·have h6b:((n6:Int) == 0)=false:=by simp [h6]
      have h6i:(0:Int)<(n6:Int):=by omega
      have h60:0<n6:=by omega
      obtain ⟨xb,xo,x1,x2,rfl,hxe,hxa,hxb⟩:=R7.out.at h60;have hfst:=sX (p:=x) (V:=V) HOK.out hp2 hst (by rw [HPT.out,<-HAA.out,HN3.out];exact h6);rw [HPT.out,<-HAA.out,hxe,<-hex] at hfst;simp only [Prod.mk.injEq] at hfst;obtain ⟨rfl,rfl⟩:=hfst;simp only [Nat.zero_mul,Nat.add_zero] at hxa hxb;have hkd:Ext W7 W7.drew:=Ext.drew W7;have HKB:=ae (⟨hkd.cellSome l0,hkd.cellSome l1,hkd.cellSome l2,hkd.cellSome hxa,hkd.cellSome hxb⟩:W7.drew.cell? ⟨bl,0,none⟩=some (.bool true)/\W7.drew.cell? ⟨bl,1,none⟩=some (.int .i64 x1)/\W7.drew.cell? ⟨bl,2,none⟩=some (.int .i64 x2)/\W7.drew.cell? ⟨xb,xo,none⟩=some (.int .i64 x1)/\W7.drew.cell? ⟨xb,xo+1,none⟩=some (.int .i64 x2));clear hex hst hgk hxe h6 hls l0 l1 l2 hxa hxb;refine wp_region_held_drew (S:=(fun w'=>w'.cell? ⟨bl,0,none⟩=some (.bool true)/\w'.cell? ⟨bl,1,none⟩=some (.int .i64 x1)/\w'.cell? ⟨bl,2,none⟩=some (.int .i64 x2)/\w'.cell? ⟨xb,xo,none⟩=some (.int .i64 x1)/\w'.cell? ⟨xb,xo+1,none⟩=some (.int .i64 x2))) (by kernel_rfl) ?_ (fun hHeld=>?_)
      ·exact HKB.out
      refine tk 0 ?_;refine tk 1 ?_;refine tk 2 ?_;refine tk 3 ?_;refine tk 4 ?_;refine tk 5 ?_;refine tk 6 ?_;refine tk 7 ?_;refine tk 8 ?_;refine tk 9 ?_;refine tk 10 ?_;refine tk 11 ?_;refine tk 12 ?_;refine tk 13 ?_;refine tk 14 ?_;refine tk 15 ?_;refine tk 16 ?_;refine wpAnyH_done (by kernel_rfl) ?_ _;go_wp2_with fail;go_ret;exact ⟨rfl,X7.out.trans hkd⟩
end Go.Proofs.YthjjfkeacobikaaGreat
