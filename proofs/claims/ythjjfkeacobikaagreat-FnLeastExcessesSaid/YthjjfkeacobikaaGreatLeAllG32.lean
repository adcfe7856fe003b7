import Derived.Test.YthjjfkeacobikaaGreatLeAllG31
import Derived.Test.YthjjfkeacobikaaGreatLeAllG15
import Derived.Test.YthjjfkeacobikaaGreatLeAllG23
set_option linter.unusedVariables false
set_option linter.unusedSimpArgs false
namespace Go.Proofs.YthjjfkeacobikaaGreat
set_option maxRecDepth 100000
open Go.RowKit
section
variable {w:World} {a:Option Addr} {na ca:Nat} {b:Option Addr} {nb cb:Nat} {c:Option Addr} {nc cc:Nat} {A:List (List Int)} {B:List Int} {C:List (Int × Int)}
set_option maxHeartbeats 4000000 in
theorem jy (h:LpC w a na ca b nb cb c nc cc A B C) (ok:okLP A B C=true) {xa:Option Addr} {xn xcap:Nat} {X:List (Int × Int)} (hX:Rats w xa xn xcap X) :
 Calls Tryz.prog 234 #[lpW a na ca b nb cb c nc cc,.slice xa xn xcap] w fun e w'=>e=.returned (.bool (dj A B C.length X))/\Ext w w':=by
 obtain ⟨r1,r2,r3,r4,r5,r6⟩:=cj h ok;subst r3;have hx0:=Ext.alloc w (be a nb ca b nb cb c nc cc);have HX0:=ae hx0;have H:=ae (h.ext hx0);have HXX:=ae (hX.ext hx0);have HTB:=ae (show (w.alloc (be a nb ca b nb cb c nc cc)).heap[w.heap.size]?=some (.cells #[.slice a nb ca,.slice b nb cb,.slice c nc cc] 109 (0,0)) from aj _ _ _ rfl);have hc1:=h.c.hcap;have hc2:=h.c.hmax;have hb1:=h.b.hcap;have hb2:=h.b.hmax;have hx1:=hX.hcap;have hx2:=hX.hmax;have HV:=ae (dO H.out);rw [ok] at HV;have HE:=ae (show dj A B C.length X=(decide (xn=nc)&&(posV X&&dd A X B)) by unfold dj;rw [h.c.hlen,hX.hlen]);have HR5:=ae r5;clear h hX hx0 ok r4 r5 r6;by_cases hn:xn=nc
 ·subst hn;have hee:((xn:Int) == (xn:Int))=true:=by simp
  obtain ⟨pv,hpv⟩:∃ p,p=posV X:=⟨_,rfl⟩;obtain ⟨gv,hgv⟩:∃ p,p=dd A X B:=⟨_,rfl⟩;have HE2:=ae (show dj A B C.length X=(pv&&gv) by rw [HE.out,<-hpv,<-hgv];simp);have HN:=ae (fun (W:World) (hx:Ext (w.alloc (be a nb ca b nb cb c xn cc)) W)=>ir (HXX.out.ext hx));have HG:=ae (fun (W:World) (hx:Ext (w.alloc (be a nb ca b nb cb c xn cc)) W)=>nI (b:=b) (nb:=nb) (cb:=cb) (c:=c) (nc:=xn) (cc:=cc) (H.out.ext hx).a (HXX.out.ext hx) (H.out.ext hx).b (Nat.le_refl _) HR5.out);simp only [<-hpv] at HN;simp only [<-hgv] at HG;clear hpv hgv;cases pv
  ·go_enter Tryz.func234,Tryz.ntmps234
   go_wp2_with fail;refine HV.out.mono ?_;rintro e w1 ⟨rfl,hx⟩;have X1:=ae hx;clear hx;have p2:=az (X1.out.blk HTB.out);go_wp2_with fail;refine (HN.out _ X1.out).mono ?_;rintro e w2 ⟨rfl,hx⟩;go_wp2_with fail;go_ret;exact ⟨ag HE2.out.symm,HX0.out.trans (X1.out.trans hx)⟩
  ·go_enter Tryz.func234,Tryz.ntmps234
   go_wp2_with fail;refine HV.out.mono ?_;rintro e w1 ⟨rfl,hx⟩;have X1:=ae hx;clear hx;have p2:=az (X1.out.blk HTB.out);go_wp2_with fail;refine (HN.out _ X1.out).mono ?_;rintro e w2 ⟨rfl,hx⟩;have X2:=ae (X1.out.trans hx);clear hx p2;have p0:=aq (X2.out.blk HTB.out);have p1:=aw (X2.out.blk HTB.out);have p2:=az (X2.out.blk HTB.out);go_wp2_with fail;refine (HG.out _ X2.out).mono ?_;rintro e w3 ⟨rfl,hx⟩;go_wp2_with fail;go_ret;exact ⟨ag HE2.out.symm,HX0.out.trans (X2.out.trans hx)⟩
 ·have hee:((xn:Int) == (nc:Int))=false:=by simp;omega
  have HF:=ae (show dj A B C.length X=false by rw [HE.out,decide_eq_false hn];rfl);go_enter Tryz.func234,Tryz.ntmps234
  go_wp2_with fail;refine HV.out.mono ?_;rintro e w1 ⟨rfl,hx⟩;have X1:=ae hx;clear hx;have p2:=az (X1.out.blk HTB.out);go_wp2_with fail;go_ret;exact ⟨ag HF.out.symm,HX0.out.trans X1.out⟩
theorem pH {A:List (List Int)} {Y D:List (Int × Int)} {j:Nat} (h:none=dotL (au (colL A j)) Y):bh A Y D j=false:=by unfold bh;rw [ik,<-h]
theorem pJ {A:List (List Int)} {Y D:List (Int × Int)} {j:Nat} {v d:Int × Int} (h:some v=dotL (au (colL A j)) Y) (hd:D[j]?.getD (0,0)=d):bh A Y D j=decide (0<=cmpR d v):=by unfold bh;rw [ik,<-h,hd]
set_option maxHeartbeats 8000000 in
theorem pk (h:LpC w a na ca b nb cb c nc cc A B C) (ok:okLP A B C=true) {ya:Option Addr} {yn yc:Nat} {Y:List (Int × Int)} (hY:Rats w ya yn yc Y) {da:Option Addr} {dn dc:Nat} {D:List (Int × Int)} (hD:Rats w da dn dc D) (hdn:nc<=dn) :
 Calls Tryz.prog 232 #[lpW a na ca b nb cb c nc cc,.slice ya yn yc,.slice da dn dc] w fun e w'=>e=.returned (.bool ((List.range C.length).all (bh A Y D)))/\Ext w w':=by
 obtain ⟨r1,r2,r3,r4,r5,r6⟩:=cj h ok;subst r3;have hx0:=Ext.alloc w (be a nb ca b nb cb c nc cc);have HX0:=ae hx0;have H:=ae (h.ext hx0);have HYY:=ae (hY.ext hx0);have HDD:=ae (hD.ext hx0);have HTB:=ae (show (w.alloc (be a nb ca b nb cb c nc cc)).heap[w.heap.size]?=some (.cells #[.slice a nb ca,.slice b nb cb,.slice c nc cc] 109 (0,0)) from aj _ _ _ rfl);have hc1:=h.c.hcap;have hc2:=h.c.hmax;have hd1:=hD.hcap;have hd2:=hD.hmax;have HOK:=ae ok;have HCS:=ae (fun j=>eS (gG (A:=A) (fun i hi=>(r5 i (by have:=h.a.hlen;omega)).2) j));have HE:=ae (show (List.range C.length).all (bh A Y D)=(List.range nc).all (bh A Y D) by rw [h.c.hlen]);have HLA:=ae h.a.hlen;clear h hY hD hx0 ok r4 r5 r6;go_enter Tryz.func232,Tryz.ntmps232
 go_wp2_with fail
 go_loopg [7] nc (fun gk ii wr=>∃ k:Nat,Hid (gk+k=nc)/\ii=.int .i64 (k:Int)/\Hid ((List.range k).all (bh A Y D)=true)/\Hid (Ext (w.alloc (be a nb ca b nb cb c nc cc)) wr))
 case atStart=>exact ⟨0,ae (by omega),rfl,ae rfl,ae (Ext.refl _)⟩
 case round =>
  obtain ⟨g1,h_g1⟩:∃ x,x=gk:=⟨_,rfl⟩;subst h_g1;obtain ⟨wr1,h_wr1⟩:∃ x,x=wr:=⟨_,rfl⟩;subst h_wr1;obtain ⟨k,HK,rfl,HA,HX⟩:=hrel;have p0:=aq (HX.out.blk HTB.out);have p1:=aw (HX.out.blk HTB.out);have p2:=az (HX.out.blk HTB.out);by_cases hlt:k<nc
  ·have HCO:=ae (rE (H.out.ext HX.out) HOK.out hlt);go_wp2_with fail;refine HCO.out.mono ?_;rintro e w2 ⟨⟨v2,rfl,ho⟩,hx⟩;obtain ⟨a2,n2,c2,rfl,HN2⟩:=ho.var;have hn2:n2<=1048576:=by have h1:=HN2.out;rw [ko,HLA.out] at h1;omega
   have X2:=ae (HX.out.trans hx);have HDT:=ae (jO ho.ints (HCS.out k) hn2 (HYY.out.ext X2.out));obtain ⟨dv,hdv⟩:∃ d,d=dotL (au (colL A k)) Y:=⟨_,rfl⟩;rw [<-hdv] at HDT;have HDV:=ae hdv;clear ho hx hdv p0 p1 p2;cases dv with
   | none =>
     rw [show optR none=((0,0),false) from rfl] at HDT;have HF:=ae (show (List.range nc).all (bh A Y D)=false from cY hlt (pH HDV.out));go_wp2_with fail;refine HDT.out.mono ?_;rintro e w3 ⟨rfl,hx3⟩;have X3:=ae (X2.out.trans hx3);clear hx3;obtain ⟨E,hE⟩:∃ E,E=w3.alloc (.cells #[.int .i64 0,.int .i64 0] 43):=⟨_,rfl⟩;have XE:=ae (show Ext w3 E by rw [hE];exact Ext.alloc _ _);go_upto_region 5 with fail;rw [<-hE];clear hE;have hk2:Ext E E.drew:=Ext.drew E;refine wp_region_held_drew (S:=(fun w'=>Ext E w')) (by kernel_rfl) ?_ (fun hHeld=>?_)
     ·exact hk2
     refine tk 0 ?_;refine tk 1 ?_;refine tk 2 ?_;refine sk 3 ?_;refine sk 4 ?_;refine sk 5 ?_;refine sk 6 ?_;refine sk 7 ?_;refine sk 8 ?_;refine sk 9 ?_;refine tk 10 ?_;refine wpAnyH_done (by kernel_rfl) ?_ _;go_wp2_with fail;go_ret;exact ⟨ag (by rw [HE.out,HF.out]),((HX0.out.trans X3.out).trans XE.out).trans hk2⟩
   | some r =>
     obtain ⟨r1,r2⟩:=r;rw [show optR (some (r1,r2))=((r1,r2),true) from rfl] at HDT;go_wp2_with fail;refine HDT.out.mono ?_;rintro e w3 ⟨rfl,hx3⟩;have X3:=ae (X2.out.trans hx3);clear hx3;obtain ⟨E,hE⟩:∃ E,E=w3.alloc (.cells #[.int .i64 r1,.int .i64 r2] 43):=⟨_,rfl⟩;obtain ⟨gz,hgz⟩:∃ g,g=w3.heap.size:=⟨_,rfl⟩;have hxE:Ext w3 E:=by rw [hE];exact Ext.alloc _ _
     have XE:=ae (X3.out.trans hxE);have b0:E.cell? ⟨gz,0,none⟩=some (.int .i64 r1):=by rw [hE,hgz];simp
     have b1:E.cell? ⟨gz,1,none⟩=some (.int .i64 r2):=by rw [hE,hgz];simp
     obtain ⟨db,doff,dx,dy,hda,hdx,e0,e1⟩:=(HDD.out.ext XE.out).at (show k<dn by omega);subst hda;obtain ⟨cm,hcm⟩:∃ x,x=cmpR (dx,dy) (r1,r2):=⟨_,rfl⟩;have HB:=ae (show bh A Y D k=decide (0<=cm) by rw [hcm];exact pJ HDV.out hdx);have HCM:=ae (fun w'=>eL dx dy r1 r2 w');simp only [<-hcm] at HCM;go_upto_region 5 with fail;rw [<-hE,<-hgz];clear hE hgz hxE hcm hdx;have hkd:(k:Int)<(dn:Int):=by omega
     have hk0:(0:Int)<=(k:Int):=by omega
     have hk2:Ext E E.drew:=Ext.drew E;have HKEEP:=ae (fun (w':World) (h:Ext E w')=>(⟨h.cellSome e0,h.cellSome e1,h.cellSome b0,h.cellSome b1,h⟩:w'.cell? ⟨db,doff+k*2,none⟩=some (.int .i64 dx)/\w'.cell? ⟨db,doff+k*2+1,none⟩=some (.int .i64 dy)/\w'.cell? ⟨gz,0,none⟩=some (.int .i64 r1)/\w'.cell? ⟨gz,1,none⟩=some (.int .i64 r2)/\Ext E w'));refine wp_region_held_drew (S:=(fun w'=>w'.cell? ⟨db,doff+k*2,none⟩=some (.int .i64 dx)/\w'.cell? ⟨db,doff+k*2+1,none⟩=some (.int .i64 dy)/\w'.cell? ⟨gz,0,none⟩=some (.int .i64 r1)/\w'.cell? ⟨gz,1,none⟩=some (.int .i64 r2)/\Ext E w')) (by kernel_rfl) ?_ (fun hHeld=>?_)
     ·exact HKEEP.out _ hk2
     refine tk 0 ?_;refine tk 1 ?_;refine tk 2 ?_;refine tk 3 ?_;refine tk 4 ?_;refine tk 5 ?_;refine tk 6 ?_;refine tk 7 ?_;refine rd (i:=8) (h:=fun K hK=>?_);go_simp
     (go_at_call 147;refine (HCM.out _).mono ?_;rintro e w4 ⟨rfl,hx4⟩;have hk2:=hk2.trans hx4)
     go_wp2_with fail;refine hK.out _ _ ?_ (fun hHeld=>?_)
     ·exact HKEEP.out _ hk2
     clear hK K
     try simp only [Act.put,sA,sB,sC]
     refine tk 9 ?_;refine tk 10 ?_;refine wpAnyH_done (by kernel_rfl) ?_ _;have X5:=ae (XE.out.trans hk2);clear hk2;by_cases hc0:cm<0
     ·have HF:=ae (show (List.range nc).all (bh A Y D)=false from cY hlt (by rw [HB.out];simp;omega));go_wp2_with fail;go_ret;exact ⟨ag (by rw [HE.out,HF.out]),HX0.out.trans X5.out⟩
     ·have HT:=ae (show (List.range (k+1)).all (bh A Y D)=true by rw [fX,HA.out,HB.out];simp;omega);go_wp2_with fail
      go_roundg (g1-1)
      case measure=>have:=HK.out;omega
      case rel=>exact ⟨k+1,ae (by have:=HK.out;omega),by go_num,HT,X5⟩
  ·have hkn:nc=k:=by have:=HK.out;omega
   subst hkn;go_wp2_with fail;go_ret;exact ⟨ag (by rw [HE.out,HA.out]),HX0.out.trans HX.out⟩
end
end Go.Proofs.YthjjfkeacobikaaGreat
namespace Go.Proofs.YthjjfkeacobikaaGreat
set_option maxRecDepth 100000
open Go.RowKit
section
variable {w:World} {a:Option Addr} {na ca:Nat} {b:Option Addr} {nb cb:Nat} {c:Option Addr} {nc cc:Nat} {A:List (List Int)} {B:List Int} {C:List (Int × Int)}
 {xa:Option Addr} {xn xc:Nat} {ya:Option Addr} {yn yc:Nat} {ra:Option Addr} {rn rc:Nat} {r:LpR}
def optS (A:List (List Int)) (B:List Int) (C:List (Int × Int)) (r:LpR):Bool:=dj A B C.length r.X&&(decide (r.Y.length=B.length)&&((List.range C.length).all (bh A r.Y C)&&gL B C r))
set_option maxHeartbeats 16000000 in
theorem pW (h:LpC w a na ca b nb cb c nc cc A B C) (h':LrC w xa xn xc ya yn yc ra rn rc r) (ok:okLP A B C=true) :
 Calls Tryz.prog 230 #[lpW a na ca b nb cb c nc cc,lrW r xa xn xc ya yn yc ra rn rc] w fun e w'=>e=.returned (.bool (optS A B C r))/\Ext w w':=by
 obtain ⟨r1,r2,r3,r4,r5,r6⟩:=cj h ok;subst r3;have T0:=ae (show Two w ((w.alloc (be a nb ca b nb cb c nc cc)).alloc (bI r xa xn xc ya yn yc ra rn rc)) a nb ca b nb cb c nc cc xa xn xc ya yn yc ra rn rc r A B C from ⟨Ext.refl _,(h.ext (Ext.alloc _ _)).ext (Ext.alloc _ _),(h'.ext (Ext.alloc _ _)).ext (Ext.alloc _ _)⟩);have hy1:=h'.y.hcap;have hy2:=h'.y.hmax;have hc1:=h.c.hcap;have hc2:=h.c.hmax;have hb1:=h.b.hcap;have hb2:=h.b.hmax;have HOK:=ae ok;have HFB6:=ae (eS r6);obtain ⟨st,rX,rY,rr,rv,rp⟩:=r;obtain ⟨v1,v2⟩:=rv;have HLY:=ae h'.y.hlen;obtain ⟨fv,hfv⟩:∃ f,f=dj A B C.length rX:=⟨_,rfl⟩
 have HE:=ae (show optS A B C ⟨st,rX,rY,rr,(v1,v2),rp⟩=(fv&&(decide (yn=nb)&&((List.range C.length).all (bh A rY C)&&gL B C ⟨st,rX,rY,rr,(v1,v2),rp⟩))) by
  unfold optS;rw [hfv,h.b.hlen];simp only;rw [show rY.length=yn from h'.y.hlen])
 have HF:=ae (fun (W:World) (t:Two w W a nb ca b nb cb c nc cc xa xn xc ya yn yc ra rn rc ⟨st,rX,rY,rr,(v1,v2),rp⟩ A B C)=>jy t.lp HOK.out t.lr.x);simp only [<-hfv] at HF;obtain ⟨dv,hdv⟩:∃ d,d=(List.range C.length).all (bh A rY C):=⟨_,rfl⟩;have HD:=ae (fun (W:World) (t:Two w W a nb ca b nb cb c nc cc xa xn xc ya yn yc ra rn rc ⟨st,rX,rY,rr,(v1,v2),rp⟩ A B C)=>pk t.lp HOK.out t.lr.y t.lp.c (Nat.le_refl _));simp only [<-hdv] at HD;rw [<-hdv] at HE;clear h h' ok r4 r5 r6 hfv hdv;obtain ⟨V,hV⟩:∃ v,v=optS A B C ⟨st,rX,rY,rr,(v1,v2),rp⟩:=⟨_,rfl⟩;rw [<-hV];have HE1:=ae (hV.trans HE.out);clear hV HE;cases fv
 ·have HZ:=ae (show false=V by rw [HE1.out];rfl);go_enter Tryz.func230,Tryz.ntmps230
  obtain ⟨p0,p1,p2⟩:=T0.out.p;obtain ⟨q0,q1,q2,q3,q4,q5⟩:=T0.out.q;go_wp2_with fail;refine (HF.out _ T0.out).mono ?_;rintro e w1 ⟨rfl,hx⟩;have T1:=ae (T0.out.grow hx);clear hx p0 p1 p2 q0 q1 q2 q3 q4 q5;go_wp2_with fail;go_ret;exact ⟨ag HZ.out,T1.out.all⟩
 ·by_cases hyn:yn=nb
  ·subst hyn;have hne:((yn:Int) != (yn:Int))=false:=by simp
   cases dv
   ·have HZ:=ae (show false=V by rw [HE1.out];simp);go_enter Tryz.func230,Tryz.ntmps230
    obtain ⟨p0,p1,p2⟩:=T0.out.p;obtain ⟨q0,q1,q2,q3,q4,q5⟩:=T0.out.q;go_wp2_with fail;refine (HF.out _ T0.out).mono ?_;rintro e w1 ⟨rfl,hx⟩;have T1:=ae (T0.out.grow hx);clear hx p0 p1 p2 q0 q1 q2 q3 q4 q5;obtain ⟨p0,p1,p2⟩:=T1.out.p;obtain ⟨q0,q1,q2,q3,q4,q5⟩:=T1.out.q;go_wp2_with fail;refine (HD.out _ T1.out).mono ?_;rintro e w2 ⟨rfl,hx⟩;have T2:=ae (T1.out.grow hx);clear hx p0 p1 p2 q0 q1 q2 q3 q4 q5;go_wp2_with fail;go_ret;exact ⟨ag HZ.out,T2.out.all⟩
   ·obtain ⟨dx,hdx⟩:∃ d,d=dotL C rX:=⟨_,rfl⟩;obtain ⟨dy,hdy⟩:∃ d,d=dotL (au B) rY:=⟨_,rfl⟩
    have HM:=ae (show V=iP dx dy (v1,v2) by
     rw [HE1.out,hdx,hdy];simp only [Bool.true_and,decide_true];rw [oO];simp only;rw [ik rY])
    have HDX:=ae (fun (W:World) (t:Two w W a yn ca b yn cb c nc cc xa xn xc ya yn yc ra rn rc ⟨st,rX,rY,rr,(v1,v2),rp⟩ A B C)=>kD t.lp.c t.lr.x);have HDY:=ae (fun (W:World) (t:Two w W a yn ca b yn cb c nc cc xa xn xc ya yn yc ra rn rc ⟨st,rX,rY,rr,(v1,v2),rp⟩ A B C)=>jO t.lp.b HFB6.out (by omega) t.lr.y);simp only [<-hdx] at HDX;simp only [<-hdy] at HDY;clear hdx hdy;obtain ⟨x1,x2,xok,hxx⟩:∃ x1 x2 xok,optR dx=((x1,x2),xok):=⟨_,_,_,rfl⟩;obtain ⟨y1,y2,yok,hyy⟩:∃ y1 y2 yok,optR dy=((y1,y2),yok):=⟨_,_,_,rfl⟩;have HXX:=ae hxx;have HYY:=ae hyy;simp only [hxx] at HDX;simp only [hyy] at HDY;clear hxx hyy;go_enter Tryz.func230,Tryz.ntmps230
    obtain ⟨p0,p1,p2⟩:=T0.out.p;obtain ⟨q0,q1,q2,q3,q4,q5⟩:=T0.out.q;go_wp2_with fail;refine (HF.out _ T0.out).mono ?_;rintro e w1 ⟨rfl,hx⟩;have T1:=ae (T0.out.grow hx);clear hx p0 p1 p2 q0 q1 q2 q3 q4 q5;obtain ⟨p0,p1,p2⟩:=T1.out.p;obtain ⟨q0,q1,q2,q3,q4,q5⟩:=T1.out.q;go_wp2_with fail;refine (HD.out _ T1.out).mono ?_;rintro e w2 ⟨rfl,hx⟩;have T2:=ae (T1.out.grow hx);clear hx p0 p1 p2 q0 q1 q2 q3 q4 q5;obtain ⟨p0,p1,p2⟩:=T2.out.p;obtain ⟨q0,q1,q2,q3,q4,q5⟩:=T2.out.q;go_wp2_with fail;refine (HDX.out _ T2.out).mono ?_;rintro e w3 ⟨rfl,hx⟩;obtain ⟨E,hE⟩:∃ E,E=w3.alloc (.cells #[.int .i64 x1,.int .i64 x2] 43):=⟨_,rfl⟩;obtain ⟨gx,hgx⟩:∃ g,g=w3.heap.size:=⟨_,rfl⟩;have hxE:Ext w3 E:=by rw [hE];exact Ext.alloc _ _
    have TE:=ae ((T2.out.grow hx).grow hxE);have HB0:=ae (show ah w3 E gx x1 x2 by rw [hE,hgx];exact ah.new (Ext.refl _) _ _);go_upto_region 4 with fail;rw [<-hE,<-hgx];clear hE hxE hx hgx p0 p1 p2 q0 q1 q2 q3 q4 q5;obtain ⟨p0,p1,p2⟩:=TE.out.p;obtain ⟨q0,q1,q2,q3,q4,q5⟩:=TE.out.q;go_wp2_with fail;refine (HDY.out _ TE.out).mono ?_;rintro e w4 ⟨rfl,hx⟩;obtain ⟨F,hF⟩:∃ F,F=w4.alloc (.cells #[.int .i64 y1,.int .i64 y2] 43):=⟨_,rfl⟩;obtain ⟨gy,hgy⟩:∃ g,g=w4.heap.size:=⟨_,rfl⟩;have hxF:Ext w4 F:=by rw [hF];exact Ext.alloc _ _
    have TW:=ae ((TE.out.grow hx).grow hxF);have HB2:=ae (HB0.out.grow (hx.trans hxF));have HB1:=ae (show ah w4 F gy y1 y2 by rw [hF,hgy];exact ah.new (Ext.refl _) _ _);go_upto_region 5 with fail;rw [<-hF,<-hgy];clear hF hxF hx hgy p0 p1 p2 q0 q1 q2 q3 q4 q5;obtain ⟨p0,p1,p2⟩:=TW.out.p;obtain ⟨q0,q1,q2,q3,q4,q5⟩:=TW.out.q;have c0:=HB2.out.c0;have c1:=HB2.out.c1;have g0:=HB1.out.c0;have g1':=HB1.out.c1;cases dx with
    | none =>
      have hdk:xok=false:=by have:=HXX.out;simp only [optR] at this;simpa using (congrArg Prod.snd this).symm
      subst hdk;go_wp2_with fail;go_ret;exact ⟨ag (by rw [HM.out,(iQ _ _).1]),TW.out.all⟩
    | some xv =>
      have hdk:xok=true:=by have:=HXX.out;simp only [optR] at this;simpa using (congrArg Prod.snd this).symm
      have hdv2:xv=(x1,x2):=by have:=HXX.out;simp only [optR] at this;simpa using congrArg Prod.fst this
      subst hdk hdv2;cases dy with
      | none =>
        have hdk:yok=false:=by have:=HYY.out;simp only [optR] at this;simpa using (congrArg Prod.snd this).symm
        subst hdk;go_wp2_with fail;go_ret;exact ⟨ag (by rw [HM.out,(iQ _ _).2]),TW.out.all⟩
      | some yv =>
        have hdk:yok=true:=by have:=HYY.out;simp only [optR] at this;simpa using (congrArg Prod.snd this).symm
        have hdv2:yv=(y1,y2):=by have:=HYY.out;simp only [optR] at this;simpa using congrArg Prod.fst this
        subst hdk hdv2;have HM2:=ae (show V=(((x1 == y1)&&(x2 == y2))&&((x1 == v1)&&(x2 == v2))) by rw [HM.out,lB]);cases h1:(x1 == y1)
        all_goals
         cases h2:(x2 == y2)
        all_goals
         have HM3:=ae HM2.out;rw [h1,h2] at HM3
        all_goals try (
         have HF:=ae (show V=false by rw [HM3.out];rfl);go_wp2_with fail;go_ret
         exact ⟨ag HF.out.symm,TW.out.all⟩)
        cases h3:(x1 == v1)
        all_goals
         cases h4:(x2 == v2)
        all_goals
         rw [h3,h4] at HM3;go_wp2_with fail;go_ret;exact ⟨ag (by rw [HM3.out];rfl),TW.out.all⟩
  ·have hne:((yn:Int) != (nb:Int))=true:=by simp;omega
   have HZ:=ae (show false=V by rw [HE1.out,decide_eq_false hyn];rfl);go_enter Tryz.func230,Tryz.ntmps230
   obtain ⟨p0,p1,p2⟩:=T0.out.p;obtain ⟨q0,q1,q2,q3,q4,q5⟩:=T0.out.q;go_wp2_with fail;refine (HF.out _ T0.out).mono ?_;rintro e w1 ⟨rfl,hx⟩;have T1:=ae (T0.out.grow hx);clear hx p0 p1 p2 q0 q1 q2 q3 q4 q5;obtain ⟨p0,p1,p2⟩:=T1.out.p;obtain ⟨q0,q1,q2,q3,q4,q5⟩:=T1.out.q;go_wp2_with fail;go_ret;exact ⟨ag HZ.out,T1.out.all⟩
end
end Go.Proofs.YthjjfkeacobikaaGreat
namespace Go.Proofs.YthjjfkeacobikaaGreat
set_option maxRecDepth 100000
open Go.RowKit
theorem rU {v:Int × Int} (hv:valR v=true):decide (0<=cmpR (0,1) v)=decide (v.1<=0):=by
 have hb:=aU hv;unfold cmpR;rw [if_pos (by rw [hv];decide)];simp only;by_cases h:v.1<=0
 ·rw [if_neg (by omega),decide_eq_true h]
  split <;> rfl
 ·rw [if_pos (by omega),decide_eq_false h];rfl
theorem pK (A:List (List Int)) (Y:List (Int × Int)) {n:Nat} {D:List (Int × Int)} (hD:∀ j,j<n->D[j]?.getD (0,0)=(0,1)):(List.range n).all (bh A Y D)=(List.range n).all (noF A Y):=by
 rw [Bool.eq_iff_iff,List.all_eq_true,List.all_eq_true];have key:∀ j,j<n->bh A Y D j=noF A Y j:=by
  intro j hj;unfold bh noF noO;rw [hD j hj];cases hd:dotL Y (au (colL A j)) with
  | none=>rfl
  | some v=>exact rU (dr hd).2.1
 constructor
 ·intro h j hj;rw [<-key j (List.mem_range.1 hj)];exact h j hj
 ·intro h j hj;rw [key j (List.mem_range.1 hj)];exact h j hj
theorem oW {n j:Nat} (h:j<n):(List.replicate n ((0:Int),(1:Int)))[j]?.getD (0,0)=(0,1):=by rw [List.getElem?_replicate,if_pos h];rfl
section
variable {w:World} {a:Option Addr} {na ca:Nat} {b:Option Addr} {nb cb:Nat} {c:Option Addr} {nc cc:Nat} {A:List (List Int)} {B:List Int} {C:List (Int × Int)}
 {xa:Option Addr} {xn xc:Nat} {ya:Option Addr} {yn yc:Nat} {ra:Option Addr} {rn rc:Nat} {r:LpR}
set_option maxHeartbeats 16000000 in
theorem rB (h:LpC w a na ca b nb cb c nc cc A B C) (h':LrC w xa xn xc ya yn yc ra rn rc r) (ok:okLP A B C=true) (hs:r.status=1) :
 Calls Tryz.prog 162 #[lpW a na ca b nb cb c nc cc,lrW r xa xn xc ya yn yc ra rn rc] w fun e w'=>e=.returned (.bool (aD bh A B C r))/\Ext w w':=by
 obtain ⟨r1,r2,r3,r4,r5,r6⟩:=cj h ok;subst r3;have T0:=ae (show Two w ((w.alloc (be a nb ca b nb cb c nc cc)).alloc (bI r xa xn xc ya yn yc ra rn rc)) a nb ca b nb cb c nc cc xa xn xc ya yn yc ra rn rc r A B C from ⟨Ext.refl _,(h.ext (Ext.alloc _ _)).ext (Ext.alloc _ _),(h'.ext (Ext.alloc _ _)).ext (Ext.alloc _ _)⟩);have hy1:=h'.y.hcap;have hy2:=h'.y.hmax;have hr1:=h'.ray.hcap;have hr2:=h'.ray.hmax;have hc1:=h.c.hcap;have hc2:=h.c.hmax;have hb1:=h.b.hcap;have hb2:=h.b.hmax;have HOK:=ae ok;have HFB6:=ae (eS r6);have HR5:=ae r5;obtain ⟨st,rX,rY,rr,rv,rp⟩:=r;obtain ⟨v1,v2⟩:=rv;simp only at hs;subst hs;have HLY:=ae h'.y.hlen;have HLB:=ae h.b.hlen;have HLC:=ae h.c.hlen;have HLR:=ae h'.ray.hlen;have HV:=ae (dO T0.out.lp);rw [ok] at HV;obtain ⟨V,hV⟩:∃ v,v=aD bh A B C ⟨1,rX,rY,rr,(v1,v2),rp⟩:=⟨_,rfl⟩;rw [<-hV];have HVE:=ae (show V=optS A B C ⟨1,rX,rY,rr,(v1,v2),rp⟩ by rw [hV];unfold aD optS;rw [if_pos rfl]);have HOP:=ae (fun (W:World) (t:Two w W a nb ca b nb cb c nc cc xa xn xc ya yn yc ra rn rc ⟨1,rX,rY,rr,(v1,v2),rp⟩ A B C)=>pW t.lp t.lr HOK.out);simp only [<-HVE.out] at HOP;clear h h' ok r4 r5 r6;clear hV;go_enter Tryz.func162,Tryz.ntmps162
 obtain ⟨p0,p1,p2⟩:=T0.out.p;obtain ⟨q0,q1,q2,q3,q4,q5⟩:=T0.out.q;go_wp2_with fail;refine HV.out.mono ?_;rintro e w1 ⟨rfl,hx⟩;have T1:=ae (T0.out.grow hx);clear hx p0 p1 p2 q0 q1 q2 q3 q4 q5;obtain ⟨p0,p1,p2⟩:=T1.out.p;obtain ⟨q0,q1,q2,q3,q4,q5⟩:=T1.out.q;have T1F:=ae (T1.out.ext.cellSome (v:=.int .i64 rp) (a:=⟨w.heap.size+1,6,none⟩) (by simp));have q6:=T1F.out;go_wp2_with fail;refine (HOP.out _ T1.out).mono ?_;rintro e w2 ⟨rfl,hx⟩;have T2:=ae (T1.out.grow hx);clear hx p0 p1 p2 q0 q1 q2 q3 q4 q5 q6;go_wp2_with fail;go_ret;exact ⟨rfl,T2.out.all⟩
set_option maxHeartbeats 16000000 in
theorem rC (h:LpC w a na ca b nb cb c nc cc A B C) (h':LrC w xa xn xc ya yn yc ra rn rc r) (ok:okLP A B C=true) (hs:r.status=2) :
 Calls Tryz.prog 162 #[lpW a na ca b nb cb c nc cc,lrW r xa xn xc ya yn yc ra rn rc] w fun e w'=>e=.returned (.bool (aD bh A B C r))/\Ext w w':=by
 obtain ⟨r1,r2,r3,r4,r5,r6⟩:=cj h ok;subst r3;have T0:=ae (show Two w ((w.alloc (be a nb ca b nb cb c nc cc)).alloc (bI r xa xn xc ya yn yc ra rn rc)) a nb ca b nb cb c nc cc xa xn xc ya yn yc ra rn rc r A B C from ⟨Ext.refl _,(h.ext (Ext.alloc _ _)).ext (Ext.alloc _ _),(h'.ext (Ext.alloc _ _)).ext (Ext.alloc _ _)⟩);have hy1:=h'.y.hcap;have hy2:=h'.y.hmax;have hr1:=h'.ray.hcap;have hr2:=h'.ray.hmax;have hc1:=h.c.hcap;have hc2:=h.c.hmax;have hb1:=h.b.hcap;have hb2:=h.b.hmax;have HOK:=ae ok;have HFB6:=ae (eS r6);have HR5:=ae r5;obtain ⟨st,rX,rY,rr,rv,rp⟩:=r;obtain ⟨v1,v2⟩:=rv;simp only at hs;subst hs;have HLY:=ae h'.y.hlen;have HLB:=ae h.b.hlen;have HLC:=ae h.c.hlen;have HLR:=ae h'.ray.hlen;have HV:=ae (dO T0.out.lp);rw [ok] at HV;obtain ⟨V,hV⟩:∃ v,v=aD bh A B C ⟨2,rX,rY,rr,(v1,v2),rp⟩:=⟨_,rfl⟩;rw [<-hV];obtain ⟨dv,hdv⟩:∃ d,d=(List.range C.length).all (bh A rY (List.replicate nc (0,1))):=⟨_,rfl⟩;obtain ⟨dy,hdy⟩:∃ d,d=dotL (au B) rY:=⟨_,rfl⟩
 have HVE:=ae (show V=(decide (yn=nb)&&(dv&&posO dy)) by
  rw [hV,hdv,hdy];unfold aD;rw [if_neg (by simp),if_pos rfl];simp only;rw [lH,HLB.out,show rY.length=yn from HLY.out,ik rY,pK A rY (fun j hj=>oW (by rw [<-HLC.out];exact hj))])
 have HDU:=ae (fun (W:World) (t:Two w W a nb ca b nb cb c nc cc xa xn xc ya yn yc ra rn rc ⟨2,rX,rY,rr,(v1,v2),rp⟩ A B C) (za:Option Addr) (zn zc:Nat) (hz:Rats W za zn zc (List.replicate nc (0,1))) (hzn:nc<=zn)=>pk t.lp HOK.out t.lr.y hz hzn);have HDY:=ae (fun (W:World) (t:Two w W a nb ca b nb cb c nc cc xa xn xc ya yn yc ra rn rc ⟨2,rX,rY,rr,(v1,v2),rp⟩ A B C)=>jO t.lp.b HFB6.out (by omega) t.lr.y);simp only [<-hdv] at HDU;simp only [<-hdy] at HDY;obtain ⟨y1,y2,yok,hyy⟩:∃ y1 y2 yok,optR dy=((y1,y2),yok):=⟨_,_,_,rfl⟩;simp only [hyy] at HDY
 have HYY:=ae (show posO dy=(yok&&decide (0<y1)) by
  cases dy with
  | none=>simp only [optR] at hyy;cases hyy;rfl
  | some v=>obtain ⟨z1,z2⟩:=v;simp only [optR,Option.getD_some,Option.isSome_some,Prod.mk.injEq] at hyy;obtain ⟨⟨rfl,rfl⟩,rfl⟩:=hyy;rfl)
 clear h h' ok r4 r5 r6;clear hV hdv hdy hyy;have HS1:((2:Int) == 1)=false:=by decide
 go_enter Tryz.func162,Tryz.ntmps162
 obtain ⟨p0,p1,p2⟩:=T0.out.p;obtain ⟨q0,q1,q2,q3,q4,q5⟩:=T0.out.q;go_wp2_with fail;refine HV.out.mono ?_;rintro e w1 ⟨rfl,hx⟩;have T1:=ae (T0.out.grow hx);clear hx p0 p1 p2 q0 q1 q2 q3 q4 q5;obtain ⟨p0,p1,p2⟩:=T1.out.p;obtain ⟨q0,q1,q2,q3,q4,q5⟩:=T1.out.q;go_wp2_with fail;refine (HDY.out _ T1.out).mono ?_;rintro e w2 ⟨rfl,hx⟩;obtain ⟨E,hE⟩:∃ E,E=w2.alloc (.cells #[.int .i64 y1,.int .i64 y2] 43):=⟨_,rfl⟩;obtain ⟨gx,hgx⟩:∃ g,g=w2.heap.size:=⟨_,rfl⟩;have hxE:Ext w2 E:=by rw [hE];exact Ext.alloc _ _
 have TE:=ae ((T1.out.grow hx).grow hxE);have HB0:=ae (show ah w2 E gx y1 y2 by rw [hE,hgx];exact ah.new (Ext.refl _) _ _);go_upto_region 8 with fail;rw [<-hE,<-hgx];clear hE hxE hx hgx p0 p1 p2 q0 q1 q2 q3 q4 q5;obtain ⟨p0,p1,p2⟩:=TE.out.p;obtain ⟨q0,q1,q2,q3,q4,q5⟩:=TE.out.q;have b0:=HB0.out.c0;have b1:=HB0.out.c1;have hk2:Ext E E.drew:=Ext.drew E;have HKEEP:=ae (fun (w':World) (h:Ext E w')=>(⟨h.cellSome p0,h.cellSome p1,h.cellSome p2,h.cellSome q2,h.cellSome b0,h.cellSome b1,h⟩:w'.cell? ⟨w.heap.size,0,none⟩=some (.slice a nb ca)/\w'.cell? ⟨w.heap.size,1,none⟩=some (.slice b nb cb)/\w'.cell? ⟨w.heap.size,2,none⟩=some (.slice c nc cc)/\w'.cell? ⟨w.heap.size+1,2,none⟩=some (.slice ya yn yc)/\w'.cell? ⟨gx,0,none⟩=some (.int .i64 y1)/\w'.cell? ⟨gx,1,none⟩=some (.int .i64 y2)/\Ext E w'));by_cases hyn:yn=nb
 ·have hne:((yn:Int) == (nb:Int))=true:=by simp;omega
  have HYN:=ae hyn;clear hyn;cases dv
  ·have HZ:=ae (show false=V by rw [HVE.out];simp);refine wp_region_held_drew (S:=(fun w'=>w'.cell? ⟨w.heap.size,0,none⟩=some (.slice a nb ca)/\w'.cell? ⟨w.heap.size,1,none⟩=some (.slice b nb cb)/\w'.cell? ⟨w.heap.size,2,none⟩=some (.slice c nc cc)/\w'.cell? ⟨w.heap.size+1,2,none⟩=some (.slice ya yn yc)/\w'.cell? ⟨gx,0,none⟩=some (.int .i64 y1)/\w'.cell? ⟨gx,1,none⟩=some (.int .i64 y2)/\Ext E w')) (by kernel_rfl) ?_ (fun hHeld=>?_)
   ·exact HKEEP.out _ hk2
   refine tk 0 ?_;refine tk 1 ?_;refine tk 2 ?_;refine tk 3 ?_;refine tk 4 ?_;refine tk 5 ?_;refine tk 6 ?_;refine tk 7 ?_;refine tk 8 ?_;refine tk 9 ?_;refine tk 10 ?_;refine tk 11 ?_;refine tk 12 ?_;refine tk 13 ?_;refine rd (i:=14) (h:=fun K hK=>?_);go_simp
   (go_at_call 181;refine (jA nc (by omega)).mono ?_;rintro e w3 ⟨⟨v3,rfl,ho3⟩,hx3⟩;have hk2:=hk2.trans hx3;obtain ⟨a3,n3,c3,rfl,hn3⟩:=ho3.var;have hn4:nc<=n3:=by (have h1:=hn3.out;rw [List.length_replicate] at h1;omega))
   go_wp2_with fail;refine hK.out _ _ ?_ (fun hHeld=>?_)
   ·exact HKEEP.out _ hk2
   clear hK K
   try simp only [Act.put,sA,sB,sC]
   refine rd (i:=15) (h:=fun K hK=>?_);go_simp
   (go_at_call 232;refine (HDU.out _ (TE.out.grow hk2) _ _ _ ho3.rats hn4).mono ?_;rintro e w4 ⟨rfl,hx4⟩;have hk2:=hk2.trans hx4)
   go_wp2_with fail;refine hK.out _ _ ?_ (fun hHeld=>?_)
   ·exact HKEEP.out _ hk2
   clear hK K
   try simp only [Act.put,sA,sB,sC]
   refine tk 16 ?_;refine tk 17 ?_;refine sk 18 ?_;refine tk 19 ?_;refine tk 20 ?_;refine sk 21 ?_;refine sk 22 ?_;refine sk 23 ?_;refine tk 24 ?_;refine tk 25 ?_;refine wpAnyH_done (by kernel_rfl) ?_ _;go_wp2_with fail;go_ret;exact ⟨ag HZ.out,(TE.out.grow hk2).all⟩
  ·cases yok
   ·have HZ:=ae (show false=V by rw [HVE.out,HYY.out,decide_eq_true HYN.out];simp);refine wp_region_held_drew (S:=(fun w'=>w'.cell? ⟨w.heap.size,0,none⟩=some (.slice a nb ca)/\w'.cell? ⟨w.heap.size,1,none⟩=some (.slice b nb cb)/\w'.cell? ⟨w.heap.size,2,none⟩=some (.slice c nc cc)/\w'.cell? ⟨w.heap.size+1,2,none⟩=some (.slice ya yn yc)/\w'.cell? ⟨gx,0,none⟩=some (.int .i64 y1)/\w'.cell? ⟨gx,1,none⟩=some (.int .i64 y2)/\Ext E w')) (by kernel_rfl) ?_ (fun hHeld=>?_)
    ·exact HKEEP.out _ hk2
    refine tk 0 ?_;refine tk 1 ?_;refine tk 2 ?_;refine tk 3 ?_;refine tk 4 ?_;refine tk 5 ?_;refine tk 6 ?_;refine tk 7 ?_;refine tk 8 ?_;refine tk 9 ?_;refine tk 10 ?_;refine tk 11 ?_;refine tk 12 ?_;refine tk 13 ?_;refine rd (i:=14) (h:=fun K hK=>?_);go_simp
    (go_at_call 181;refine (jA nc (by omega)).mono ?_;rintro e w3 ⟨⟨v3,rfl,ho3⟩,hx3⟩;have hk2:=hk2.trans hx3;obtain ⟨a3,n3,c3,rfl,hn3⟩:=ho3.var;have hn4:nc<=n3:=by (have h1:=hn3.out;rw [List.length_replicate] at h1;omega))
    go_wp2_with fail;refine hK.out _ _ ?_ (fun hHeld=>?_)
    ·exact HKEEP.out _ hk2
    clear hK K
    try simp only [Act.put,sA,sB,sC]
    refine rd (i:=15) (h:=fun K hK=>?_);go_simp
    (go_at_call 232;refine (HDU.out _ (TE.out.grow hk2) _ _ _ ho3.rats hn4).mono ?_;rintro e w4 ⟨rfl,hx4⟩;have hk2:=hk2.trans hx4)
    go_wp2_with fail;refine hK.out _ _ ?_ (fun hHeld=>?_)
    ·exact HKEEP.out _ hk2
    clear hK K
    try simp only [Act.put,sA,sB,sC]
    refine tk 16 ?_;refine tk 17 ?_;refine tk 18 ?_;refine tk 19 ?_;refine tk 20 ?_;refine sk 21 ?_;refine sk 22 ?_;refine sk 23 ?_;refine tk 24 ?_;refine tk 25 ?_;refine wpAnyH_done (by kernel_rfl) ?_ _;go_wp2_with fail;go_ret;exact ⟨ag HZ.out,(TE.out.grow hk2).all⟩
   ·have HZ:=ae (show decide (0<y1)=V by rw [HVE.out,HYY.out,decide_eq_true HYN.out];simp);refine wp_region_held_drew (S:=(fun w'=>w'.cell? ⟨w.heap.size,0,none⟩=some (.slice a nb ca)/\w'.cell? ⟨w.heap.size,1,none⟩=some (.slice b nb cb)/\w'.cell? ⟨w.heap.size,2,none⟩=some (.slice c nc cc)/\w'.cell? ⟨w.heap.size+1,2,none⟩=some (.slice ya yn yc)/\w'.cell? ⟨gx,0,none⟩=some (.int .i64 y1)/\w'.cell? ⟨gx,1,none⟩=some (.int .i64 y2)/\Ext E w')) (by kernel_rfl) ?_ (fun hHeld=>?_)
    ·exact HKEEP.out _ hk2
    refine tk 0 ?_;refine tk 1 ?_;refine tk 2 ?_;refine tk 3 ?_;refine tk 4 ?_;refine tk 5 ?_;refine tk 6 ?_;refine tk 7 ?_;refine tk 8 ?_;refine tk 9 ?_;refine tk 10 ?_;refine tk 11 ?_;refine tk 12 ?_;refine tk 13 ?_;refine rd (i:=14) (h:=fun K hK=>?_);go_simp
    (go_at_call 181;refine (jA nc (by omega)).mono ?_;rintro e w3 ⟨⟨v3,rfl,ho3⟩,hx3⟩;have hk2:=hk2.trans hx3;obtain ⟨a3,n3,c3,rfl,hn3⟩:=ho3.var;have hn4:nc<=n3:=by (have h1:=hn3.out;rw [List.length_replicate] at h1;omega))
    go_wp2_with fail;refine hK.out _ _ ?_ (fun hHeld=>?_)
    ·exact HKEEP.out _ hk2
    clear hK K
    try simp only [Act.put,sA,sB,sC]
    refine rd (i:=15) (h:=fun K hK=>?_);go_simp
    (go_at_call 232;refine (HDU.out _ (TE.out.grow hk2) _ _ _ ho3.rats hn4).mono ?_;rintro e w4 ⟨rfl,hx4⟩;have hk2:=hk2.trans hx4)
    go_wp2_with fail;refine hK.out _ _ ?_ (fun hHeld=>?_)
    ·exact HKEEP.out _ hk2
    clear hK K
    try simp only [Act.put,sA,sB,sC]
    refine tk 16 ?_;refine tk 17 ?_;refine tk 18 ?_;refine tk 19 ?_;refine tk 20 ?_;refine tk 21 ?_;refine tk 22 ?_;refine tk 23 ?_;refine tk 24 ?_;refine tk 25 ?_;refine wpAnyH_done (by kernel_rfl) ?_ _;go_wp2_with fail;go_ret;exact ⟨ag HZ.out,(TE.out.grow hk2).all⟩
 ·have hne:((yn:Int) == (nb:Int))=false:=by simp;omega
  have HZ:=ae (show false=V by rw [HVE.out,decide_eq_false hyn];rfl);clear hyn;refine wp_region_held_drew (S:=(fun w'=>w'.cell? ⟨w.heap.size,0,none⟩=some (.slice a nb ca)/\w'.cell? ⟨w.heap.size,1,none⟩=some (.slice b nb cb)/\w'.cell? ⟨w.heap.size,2,none⟩=some (.slice c nc cc)/\w'.cell? ⟨w.heap.size+1,2,none⟩=some (.slice ya yn yc)/\w'.cell? ⟨gx,0,none⟩=some (.int .i64 y1)/\w'.cell? ⟨gx,1,none⟩=some (.int .i64 y2)/\Ext E w')) (by kernel_rfl) ?_ (fun hHeld=>?_)
  ·exact HKEEP.out _ hk2
  refine tk 0 ?_;refine tk 1 ?_;refine tk 2 ?_;refine tk 3 ?_;refine tk 4 ?_;refine tk 5 ?_;refine tk 6 ?_;refine tk 7 ?_;refine sk 8 ?_;refine sk 9 ?_;refine sk 10 ?_;refine sk 11 ?_;refine sk 12 ?_;refine sk 13 ?_;refine sk 14 ?_;refine sk 15 ?_;refine tk 16 ?_;refine tk 17 ?_;refine sk 18 ?_;refine tk 19 ?_;refine tk 20 ?_;refine sk 21 ?_;refine sk 22 ?_;refine sk 23 ?_;refine tk 24 ?_;refine tk 25 ?_;refine wpAnyH_done (by kernel_rfl) ?_ _;go_wp2_with fail;go_ret;exact ⟨ag HZ.out,(TE.out.grow hk2).all⟩
set_option maxHeartbeats 16000000 in
theorem rD (h:LpC w a na ca b nb cb c nc cc A B C) (h':LrC w xa xn xc ya yn yc ra rn rc r) (ok:okLP A B C=true) (hs:r.status=3) :
 Calls Tryz.prog 162 #[lpW a na ca b nb cb c nc cc,lrW r xa xn xc ya yn yc ra rn rc] w fun e w'=>e=.returned (.bool (aD bh A B C r))/\Ext w w':=by
 obtain ⟨r1,r2,r3,r4,r5,r6⟩:=cj h ok;subst r3;have T0:=ae (show Two w ((w.alloc (be a nb ca b nb cb c nc cc)).alloc (bI r xa xn xc ya yn yc ra rn rc)) a nb ca b nb cb c nc cc xa xn xc ya yn yc ra rn rc r A B C from ⟨Ext.refl _,(h.ext (Ext.alloc _ _)).ext (Ext.alloc _ _),(h'.ext (Ext.alloc _ _)).ext (Ext.alloc _ _)⟩);have hy1:=h'.y.hcap;have hy2:=h'.y.hmax;have hr1:=h'.ray.hcap;have hr2:=h'.ray.hmax;have hc1:=h.c.hcap;have hc2:=h.c.hmax;have hb1:=h.b.hcap;have hb2:=h.b.hmax;have HOK:=ae ok;have HFB6:=ae (eS r6);have HR5:=ae r5;obtain ⟨st,rX,rY,rr,rv,rp⟩:=r;obtain ⟨v1,v2⟩:=rv;simp only at hs;subst hs;have HLY:=ae h'.y.hlen;have HLB:=ae h.b.hlen;have HLC:=ae h.c.hlen;have HLR:=ae h'.ray.hlen;have HV:=ae (dO T0.out.lp);rw [ok] at HV;obtain ⟨V,hV⟩:∃ v,v=aD bh A B C ⟨3,rX,rY,rr,(v1,v2),rp⟩:=⟨_,rfl⟩;rw [<-hV];obtain ⟨fv,hfv⟩:∃ f,f=dj A B C.length rX:=⟨_,rfl⟩;obtain ⟨pv,hpv⟩:∃ f,f=posV rr:=⟨_,rfl⟩;obtain ⟨gv,hgv⟩:∃ f,f=dd A rr (List.replicate nb 0):=⟨_,rfl⟩;obtain ⟨dx,hdx⟩:∃ d,d=dotL C rr:=⟨_,rfl⟩
 have HVE:=ae (show V=(fv&&((decide (rn=nc)&&pv)&&(gv&&negO dx))) by
  rw [hV,hfv,hpv,hgv,hdx];unfold aD;rw [if_neg (by simp),if_neg (by simp),if_pos rfl];simp only;rw [qz,HLB.out,HLC.out,show rr.length=rn from HLR.out])
 have HF:=ae (fun (W:World) (t:Two w W a nb ca b nb cb c nc cc xa xn xc ya yn yc ra rn rc ⟨3,rX,rY,rr,(v1,v2),rp⟩ A B C)=>jy t.lp HOK.out t.lr.x);have HN:=ae (fun (W:World) (t:Two w W a nb ca b nb cb c nc cc xa xn xc ya yn yc ra rn rc ⟨3,rX,rY,rr,(v1,v2),rp⟩ A B C)=>ir t.lr.ray);have hmk:=ix nb (by omega);have HGV:=ae (fun (W:World) (t:Two w W a nb ca b nb cb c nc cc xa xn xc ya yn yc ra rn rc ⟨3,rX,rY,rr,(v1,v2),rp⟩ A B C)=>nI (b:=b) (nb:=nb) (cb:=cb) (c:=c) (nc:=nc) (cc:=cc) (t.grow (Ext.alloc W (.cells (aZ (List.replicate nb 0)) 3))).lp.a (t.grow (Ext.alloc W (.cells (aZ (List.replicate nb 0)) 3))).lr.ray (Row.ints (show Row (W.alloc (.cells (aZ (List.replicate nb 0)) 3)) W.heap.size 3 (List.replicate nb 0) from heap_alloc_new _ _) (by simp) (Nat.le_refl nb) (by omega)) (Nat.le_refl _) HR5.out);have HDX:=ae (fun (W:World) (t:Two w W a nb ca b nb cb c nc cc xa xn xc ya yn yc ra rn rc ⟨3,rX,rY,rr,(v1,v2),rp⟩ A B C)=>kD t.lp.c t.lr.ray);simp only [<-hfv] at HF;simp only [<-hpv] at HN;simp only [<-hgv] at HGV;simp only [<-hdx] at HDX;obtain ⟨x1,x2,xok,hxx⟩:∃ y1 y2 yok,optR dx=((y1,y2),yok):=⟨_,_,_,rfl⟩;simp only [hxx] at HDX
 have HXX:=ae (show negO dx=(xok&&decide (x1<0)) by
  cases dx with
  | none=>simp only [optR] at hxx;cases hxx;rfl
  | some v=>obtain ⟨z1,z2⟩:=v;simp only [optR,Option.getD_some,Option.isSome_some,Prod.mk.injEq] at hxx;obtain ⟨⟨rfl,rfl⟩,rfl⟩:=hxx;rfl)
 clear h h' ok r4 r5 r6;clear hV hfv hpv hgv hdx hxx;have HS1:((3:Int) == 1)=false:=by decide
 have HS2:((3:Int) == 2)=false:=by decide
 go_enter Tryz.func162,Tryz.ntmps162
 obtain ⟨p0,p1,p2⟩:=T0.out.p;obtain ⟨q0,q1,q2,q3,q4,q5⟩:=T0.out.q;go_wp2_with fail;refine HV.out.mono ?_;rintro e w1 ⟨rfl,hx⟩;have T1:=ae (T0.out.grow hx);clear hx p0 p1 p2 q0 q1 q2 q3 q4 q5;obtain ⟨p0,p1,p2⟩:=T1.out.p;obtain ⟨q0,q1,q2,q3,q4,q5⟩:=T1.out.q;go_wp2_with fail;refine (HDX.out _ T1.out).mono ?_;rintro e w2 ⟨rfl,hx⟩;obtain ⟨E,hE⟩:∃ E,E=w2.alloc (.cells #[.int .i64 x1,.int .i64 x2] 43):=⟨_,rfl⟩;obtain ⟨gx,hgx⟩:∃ g,g=w2.heap.size:=⟨_,rfl⟩;have hxE:Ext w2 E:=by rw [hE];exact Ext.alloc _ _
 have TE:=ae ((T1.out.grow hx).grow hxE);have HB0:=ae (show ah w2 E gx x1 x2 by rw [hE,hgx];exact ah.new (Ext.refl _) _ _);go_upto_region 11 with fail;rw [<-hE,<-hgx];clear hE hxE hx hgx p0 p1 p2 q0 q1 q2 q3 q4 q5;obtain ⟨p0,p1,p2⟩:=TE.out.p;obtain ⟨q0,q1,q2,q3,q4,q5⟩:=TE.out.q;have b0:=HB0.out.c0;have b1:=HB0.out.c1;have hk2:Ext E E.drew:=Ext.drew E;have HKEEP:=ae (fun (w':World) (h:Ext E w')=>(⟨h.cellSome p0,h.cellSome p1,h.cellSome p2,h.cellSome q1,h.cellSome q3,h.cellSome b0,h.cellSome b1,h⟩:w'.cell? ⟨w.heap.size,0,none⟩=some (.slice a nb ca)/\w'.cell? ⟨w.heap.size,1,none⟩=some (.slice b nb cb)/\w'.cell? ⟨w.heap.size,2,none⟩=some (.slice c nc cc)/\w'.cell? ⟨w.heap.size+1,1,none⟩=some (.slice xa xn xc)/\w'.cell? ⟨w.heap.size+1,3,none⟩=some (.slice ra rn rc)/\w'.cell? ⟨gx,0,none⟩=some (.int .i64 x1)/\w'.cell? ⟨gx,1,none⟩=some (.int .i64 x2)/\Ext E w'));cases fv
 ·have HZ:=ae (show false=V by rw [HVE.out];rfl);refine wp_region_held_drew (S:=(fun w'=>w'.cell? ⟨w.heap.size,0,none⟩=some (.slice a nb ca)/\w'.cell? ⟨w.heap.size,1,none⟩=some (.slice b nb cb)/\w'.cell? ⟨w.heap.size,2,none⟩=some (.slice c nc cc)/\w'.cell? ⟨w.heap.size+1,1,none⟩=some (.slice xa xn xc)/\w'.cell? ⟨w.heap.size+1,3,none⟩=some (.slice ra rn rc)/\w'.cell? ⟨gx,0,none⟩=some (.int .i64 x1)/\w'.cell? ⟨gx,1,none⟩=some (.int .i64 x2)/\Ext E w')) (by kernel_rfl) ?_ (fun hHeld=>?_)
  ·exact HKEEP.out _ hk2
  refine tk 0 ?_;refine tk 1 ?_;refine tk 2 ?_;refine rd (i:=3) (h:=fun K hK=>?_);go_simp
  (go_at_call 234;refine (HF.out _ (TE.out.grow hk2)).mono ?_;rintro e w3 ⟨rfl,hx3⟩;have hk2:=hk2.trans hx3)
  go_wp2_with fail;refine hK.out _ _ ?_ (fun hHeld=>?_)
  ·exact HKEEP.out _ hk2
  clear hK K
  try simp only [Act.put,sA,sB,sC]
  refine tk 4 ?_;refine sk 5 ?_;refine sk 6 ?_;refine sk 7 ?_;refine sk 8 ?_;refine sk 9 ?_;refine sk 10 ?_;refine sk 11 ?_;refine tk 12 ?_;refine tk 13 ?_;refine sk 14 ?_;refine sk 15 ?_;refine sk 16 ?_;refine tk 17 ?_;refine tk 18 ?_;refine sk 19 ?_;refine sk 20 ?_;refine sk 21 ?_;refine sk 22 ?_;refine sk 23 ?_;refine sk 24 ?_;refine sk 25 ?_;refine sk 26 ?_;refine tk 27 ?_;refine tk 28 ?_;refine sk 29 ?_;refine tk 30 ?_;refine tk 31 ?_;refine sk 32 ?_;refine sk 33 ?_;refine sk 34 ?_;refine tk 35 ?_;refine tk 36 ?_;refine wpAnyH_done (by kernel_rfl) ?_ _;go_wp2_with fail;go_ret;exact ⟨ag HZ.out,(TE.out.grow hk2).all⟩
 ·by_cases hrn:rn=nc
  ·have hne:((rn:Int) == (nc:Int))=true:=by simp;omega
   have HRN:=ae hrn;clear hrn;cases pv
   ·have HZ:=ae (show false=V by rw [HVE.out];simp);refine wp_region_held_drew (S:=(fun w'=>w'.cell? ⟨w.heap.size,0,none⟩=some (.slice a nb ca)/\w'.cell? ⟨w.heap.size,1,none⟩=some (.slice b nb cb)/\w'.cell? ⟨w.heap.size,2,none⟩=some (.slice c nc cc)/\w'.cell? ⟨w.heap.size+1,1,none⟩=some (.slice xa xn xc)/\w'.cell? ⟨w.heap.size+1,3,none⟩=some (.slice ra rn rc)/\w'.cell? ⟨gx,0,none⟩=some (.int .i64 x1)/\w'.cell? ⟨gx,1,none⟩=some (.int .i64 x2)/\Ext E w')) (by kernel_rfl) ?_ (fun hHeld=>?_)
    ·exact HKEEP.out _ hk2
    refine tk 0 ?_;refine tk 1 ?_;refine tk 2 ?_;refine rd (i:=3) (h:=fun K hK=>?_);go_simp
    (go_at_call 234;refine (HF.out _ (TE.out.grow hk2)).mono ?_;rintro e w3 ⟨rfl,hx3⟩;have hk2:=hk2.trans hx3)
    go_wp2_with fail;refine hK.out _ _ ?_ (fun hHeld=>?_)
    ·exact HKEEP.out _ hk2
    clear hK K
    try simp only [Act.put,sA,sB,sC]
    refine tk 4 ?_;refine tk 5 ?_;refine tk 6 ?_;refine tk 7 ?_;refine tk 8 ?_;refine tk 9 ?_;refine tk 10 ?_;refine tk 11 ?_;refine tk 12 ?_;refine tk 13 ?_;refine tk 14 ?_;refine tk 15 ?_;refine rd (i:=16) (h:=fun K hK=>?_);go_simp
    (go_at_call 235;refine (HN.out _ (TE.out.grow hk2)).mono ?_;rintro e w4 ⟨rfl,hx4⟩;have hk2:=hk2.trans hx4)
    go_wp2_with fail;refine hK.out _ _ ?_ (fun hHeld=>?_)
    ·exact HKEEP.out _ hk2
    clear hK K
    try simp only [Act.put,sA,sB,sC]
    refine tk 17 ?_;refine tk 18 ?_;refine sk 19 ?_;refine sk 20 ?_;refine sk 21 ?_;refine sk 22 ?_;refine sk 23 ?_;refine sk 24 ?_;refine sk 25 ?_;refine sk 26 ?_;refine tk 27 ?_;refine tk 28 ?_;refine sk 29 ?_;refine tk 30 ?_;refine tk 31 ?_;refine sk 32 ?_;refine sk 33 ?_;refine sk 34 ?_;refine tk 35 ?_;refine tk 36 ?_;refine wpAnyH_done (by kernel_rfl) ?_ _;go_wp2_with fail;go_ret;exact ⟨ag HZ.out,(TE.out.grow hk2).all⟩
   ·cases gv
    ·have HZ:=ae (show false=V by rw [HVE.out];simp);refine wp_region_held_drew (S:=(fun w'=>w'.cell? ⟨w.heap.size,0,none⟩=some (.slice a nb ca)/\w'.cell? ⟨w.heap.size,1,none⟩=some (.slice b nb cb)/\w'.cell? ⟨w.heap.size,2,none⟩=some (.slice c nc cc)/\w'.cell? ⟨w.heap.size+1,1,none⟩=some (.slice xa xn xc)/\w'.cell? ⟨w.heap.size+1,3,none⟩=some (.slice ra rn rc)/\w'.cell? ⟨gx,0,none⟩=some (.int .i64 x1)/\w'.cell? ⟨gx,1,none⟩=some (.int .i64 x2)/\Ext E w')) (by kernel_rfl) ?_ (fun hHeld=>?_)
     ·exact HKEEP.out _ hk2
     refine tk 0 ?_;refine tk 1 ?_;refine tk 2 ?_;refine rd (i:=3) (h:=fun K hK=>?_);go_simp
     (go_at_call 234;refine (HF.out _ (TE.out.grow hk2)).mono ?_;rintro e w3 ⟨rfl,hx3⟩;have hk2:=hk2.trans hx3)
     go_wp2_with fail;refine hK.out _ _ ?_ (fun hHeld=>?_)
     ·exact HKEEP.out _ hk2
     clear hK K
     try simp only [Act.put,sA,sB,sC]
     refine tk 4 ?_;refine tk 5 ?_;refine tk 6 ?_;refine tk 7 ?_;refine tk 8 ?_;refine tk 9 ?_;refine tk 10 ?_;refine tk 11 ?_;refine tk 12 ?_;refine tk 13 ?_;refine tk 14 ?_;refine tk 15 ?_;refine rd (i:=16) (h:=fun K hK=>?_);go_simp
     (go_at_call 235;refine (HN.out _ (TE.out.grow hk2)).mono ?_;rintro e w4 ⟨rfl,hx4⟩;have hk2:=hk2.trans hx4)
     go_wp2_with fail;refine hK.out _ _ ?_ (fun hHeld=>?_)
     ·exact HKEEP.out _ hk2
     clear hK K
     try simp only [Act.put,sA,sB,sC]
     refine tk 17 ?_;refine tk 18 ?_;refine tk 19 ?_;refine tk 20 ?_;refine tk 21 ?_;refine tk 22 ?_;refine tk 23 ?_;refine tk 24 ?_;have TG:=ae (TE.out.grow hk2);have hk9:=hk2;have hk2:=hk9.trans (Ext.alloc w4 (.cells (aZ (List.replicate nb 0)) 3));refine rd (i:=25) (h:=fun K hK=>?_);go_simp;refine hK.out _ _ ?_ (fun hHeld=>?_)
     ·exact HKEEP.out _ hk2
     clear hK K
     try simp only [Act.put,sA,sB,sC]
     refine rd (i:=26) (h:=fun K hK=>?_);go_simp
     (go_at_call 236;refine (HGV.out _ TG.out).mono ?_;rintro e w5 ⟨rfl,hx5⟩;have hk2:=hk2.trans hx5)
     go_wp2_with fail;refine hK.out _ _ ?_ (fun hHeld=>?_)
     ·exact HKEEP.out _ hk2
     clear hK K
     try simp only [Act.put,sA,sB,sC]
     refine tk 27 ?_;refine tk 28 ?_;refine sk 29 ?_;refine tk 30 ?_;refine tk 31 ?_;refine sk 32 ?_;refine sk 33 ?_;refine sk 34 ?_;refine tk 35 ?_;refine tk 36 ?_;refine wpAnyH_done (by kernel_rfl) ?_ _;go_wp2_with fail;go_ret;exact ⟨ag HZ.out,(TE.out.grow hk2).all⟩
    ·cases xok
     ·have HZ:=ae (show false=V by rw [HVE.out,HXX.out,decide_eq_true HRN.out];simp);refine wp_region_held_drew (S:=(fun w'=>w'.cell? ⟨w.heap.size,0,none⟩=some (.slice a nb ca)/\w'.cell? ⟨w.heap.size,1,none⟩=some (.slice b nb cb)/\w'.cell? ⟨w.heap.size,2,none⟩=some (.slice c nc cc)/\w'.cell? ⟨w.heap.size+1,1,none⟩=some (.slice xa xn xc)/\w'.cell? ⟨w.heap.size+1,3,none⟩=some (.slice ra rn rc)/\w'.cell? ⟨gx,0,none⟩=some (.int .i64 x1)/\w'.cell? ⟨gx,1,none⟩=some (.int .i64 x2)/\Ext E w')) (by kernel_rfl) ?_ (fun hHeld=>?_)
      ·exact HKEEP.out _ hk2
      refine tk 0 ?_;refine tk 1 ?_;refine tk 2 ?_;refine rd (i:=3) (h:=fun K hK=>?_);go_simp
      (go_at_call 234;refine (HF.out _ (TE.out.grow hk2)).mono ?_;rintro e w3 ⟨rfl,hx3⟩;have hk2:=hk2.trans hx3)
      go_wp2_with fail;refine hK.out _ _ ?_ (fun hHeld=>?_)
      ·exact HKEEP.out _ hk2
      clear hK K
      try simp only [Act.put,sA,sB,sC]
      refine tk 4 ?_;refine tk 5 ?_;refine tk 6 ?_;refine tk 7 ?_;refine tk 8 ?_;refine tk 9 ?_;refine tk 10 ?_;refine tk 11 ?_;refine tk 12 ?_;refine tk 13 ?_;refine tk 14 ?_;refine tk 15 ?_;refine rd (i:=16) (h:=fun K hK=>?_);go_simp
      (go_at_call 235;refine (HN.out _ (TE.out.grow hk2)).mono ?_;rintro e w4 ⟨rfl,hx4⟩;have hk2:=hk2.trans hx4)
      go_wp2_with fail;refine hK.out _ _ ?_ (fun hHeld=>?_)
      ·exact HKEEP.out _ hk2
      clear hK K
      try simp only [Act.put,sA,sB,sC]
      refine tk 17 ?_;refine tk 18 ?_;refine tk 19 ?_;refine tk 20 ?_;refine tk 21 ?_;refine tk 22 ?_;refine tk 23 ?_;refine tk 24 ?_;have TG:=ae (TE.out.grow hk2);have hk9:=hk2;have hk2:=hk9.trans (Ext.alloc w4 (.cells (aZ (List.replicate nb 0)) 3));refine rd (i:=25) (h:=fun K hK=>?_);go_simp;refine hK.out _ _ ?_ (fun hHeld=>?_)
      ·exact HKEEP.out _ hk2
      clear hK K
      try simp only [Act.put,sA,sB,sC]
      refine rd (i:=26) (h:=fun K hK=>?_);go_simp
      (go_at_call 236;refine (HGV.out _ TG.out).mono ?_;rintro e w5 ⟨rfl,hx5⟩;have hk2:=hk2.trans hx5)
      go_wp2_with fail;refine hK.out _ _ ?_ (fun hHeld=>?_)
      ·exact HKEEP.out _ hk2
      clear hK K
      try simp only [Act.put,sA,sB,sC]
      refine tk 27 ?_;refine tk 28 ?_;refine tk 29 ?_;refine tk 30 ?_;refine tk 31 ?_;refine sk 32 ?_;refine sk 33 ?_;refine sk 34 ?_;refine tk 35 ?_;refine tk 36 ?_;refine wpAnyH_done (by kernel_rfl) ?_ _;go_wp2_with fail;go_ret;exact ⟨ag HZ.out,(TE.out.grow hk2).all⟩
     ·have HZ:=ae (show decide (x1<0)=V by rw [HVE.out,HXX.out,decide_eq_true HRN.out];simp);refine wp_region_held_drew (S:=(fun w'=>w'.cell? ⟨w.heap.size,0,none⟩=some (.slice a nb ca)/\w'.cell? ⟨w.heap.size,1,none⟩=some (.slice b nb cb)/\w'.cell? ⟨w.heap.size,2,none⟩=some (.slice c nc cc)/\w'.cell? ⟨w.heap.size+1,1,none⟩=some (.slice xa xn xc)/\w'.cell? ⟨w.heap.size+1,3,none⟩=some (.slice ra rn rc)/\w'.cell? ⟨gx,0,none⟩=some (.int .i64 x1)/\w'.cell? ⟨gx,1,none⟩=some (.int .i64 x2)/\Ext E w')) (by kernel_rfl) ?_ (fun hHeld=>?_)
      ·exact HKEEP.out _ hk2
      refine tk 0 ?_;refine tk 1 ?_;refine tk 2 ?_;refine rd (i:=3) (h:=fun K hK=>?_);go_simp
      (go_at_call 234;refine (HF.out _ (TE.out.grow hk2)).mono ?_;rintro e w3 ⟨rfl,hx3⟩;have hk2:=hk2.trans hx3)
      go_wp2_with fail;refine hK.out _ _ ?_ (fun hHeld=>?_)
      ·exact HKEEP.out _ hk2
      clear hK K
      try simp only [Act.put,sA,sB,sC]
      refine tk 4 ?_;refine tk 5 ?_;refine tk 6 ?_;refine tk 7 ?_;refine tk 8 ?_;refine tk 9 ?_;refine tk 10 ?_;refine tk 11 ?_;refine tk 12 ?_;refine tk 13 ?_;refine tk 14 ?_;refine tk 15 ?_;refine rd (i:=16) (h:=fun K hK=>?_);go_simp
      (go_at_call 235;refine (HN.out _ (TE.out.grow hk2)).mono ?_;rintro e w4 ⟨rfl,hx4⟩;have hk2:=hk2.trans hx4)
      go_wp2_with fail;refine hK.out _ _ ?_ (fun hHeld=>?_)
      ·exact HKEEP.out _ hk2
      clear hK K
      try simp only [Act.put,sA,sB,sC]
      refine tk 17 ?_;refine tk 18 ?_;refine tk 19 ?_;refine tk 20 ?_;refine tk 21 ?_;refine tk 22 ?_;refine tk 23 ?_;refine tk 24 ?_;have TG:=ae (TE.out.grow hk2);have hk9:=hk2;have hk2:=hk9.trans (Ext.alloc w4 (.cells (aZ (List.replicate nb 0)) 3));refine rd (i:=25) (h:=fun K hK=>?_);go_simp;refine hK.out _ _ ?_ (fun hHeld=>?_)
      ·exact HKEEP.out _ hk2
      clear hK K
      try simp only [Act.put,sA,sB,sC]
      refine rd (i:=26) (h:=fun K hK=>?_);go_simp
      (go_at_call 236;refine (HGV.out _ TG.out).mono ?_;rintro e w5 ⟨rfl,hx5⟩;have hk2:=hk2.trans hx5)
      go_wp2_with fail;refine hK.out _ _ ?_ (fun hHeld=>?_)
      ·exact HKEEP.out _ hk2
      clear hK K
      try simp only [Act.put,sA,sB,sC]
      refine tk 27 ?_;refine tk 28 ?_;refine tk 29 ?_;refine tk 30 ?_;refine tk 31 ?_;refine tk 32 ?_;refine tk 33 ?_;refine tk 34 ?_;refine tk 35 ?_;refine tk 36 ?_;refine wpAnyH_done (by kernel_rfl) ?_ _;go_wp2_with fail;go_ret;exact ⟨ag HZ.out,(TE.out.grow hk2).all⟩
  ·have hne:((rn:Int) == (nc:Int))=false:=by simp;omega
   have HZ:=ae (show false=V by rw [HVE.out,decide_eq_false hrn];rfl);clear hrn;refine wp_region_held_drew (S:=(fun w'=>w'.cell? ⟨w.heap.size,0,none⟩=some (.slice a nb ca)/\w'.cell? ⟨w.heap.size,1,none⟩=some (.slice b nb cb)/\w'.cell? ⟨w.heap.size,2,none⟩=some (.slice c nc cc)/\w'.cell? ⟨w.heap.size+1,1,none⟩=some (.slice xa xn xc)/\w'.cell? ⟨w.heap.size+1,3,none⟩=some (.slice ra rn rc)/\w'.cell? ⟨gx,0,none⟩=some (.int .i64 x1)/\w'.cell? ⟨gx,1,none⟩=some (.int .i64 x2)/\Ext E w')) (by kernel_rfl) ?_ (fun hHeld=>?_)
   ·exact HKEEP.out _ hk2
   refine tk 0 ?_;refine tk 1 ?_;refine tk 2 ?_;refine rd (i:=3) (h:=fun K hK=>?_);go_simp
   (go_at_call 234;refine (HF.out _ (TE.out.grow hk2)).mono ?_;rintro e w3 ⟨rfl,hx3⟩;have hk2:=hk2.trans hx3)
   go_wp2_with fail;refine hK.out _ _ ?_ (fun hHeld=>?_)
   ·exact HKEEP.out _ hk2
   clear hK K
   try simp only [Act.put,sA,sB,sC]
   refine tk 4 ?_;refine tk 5 ?_;refine tk 6 ?_;refine tk 7 ?_;refine tk 8 ?_;refine tk 9 ?_;refine tk 10 ?_;refine tk 11 ?_;refine tk 12 ?_;refine tk 13 ?_;refine sk 14 ?_;refine sk 15 ?_;refine sk 16 ?_;refine tk 17 ?_;refine tk 18 ?_;refine sk 19 ?_;refine sk 20 ?_;refine sk 21 ?_;refine sk 22 ?_;refine sk 23 ?_;refine sk 24 ?_;refine sk 25 ?_;refine sk 26 ?_;refine tk 27 ?_;refine tk 28 ?_;refine sk 29 ?_;refine tk 30 ?_;refine tk 31 ?_;refine sk 32 ?_;refine sk 33 ?_;refine sk 34 ?_;refine tk 35 ?_;refine tk 36 ?_;refine wpAnyH_done (by kernel_rfl) ?_ _;go_wp2_with fail;go_ret;exact ⟨ag HZ.out,(TE.out.grow hk2).all⟩
set_option maxHeartbeats 4000000 in
theorem tA (h:LpC w a na ca b nb cb c nc cc A B C) (h':LrC w xa xn xc ya yn yc ra rn rc r) (ok:okLP A B C=true) :
 Calls Tryz.prog 162 #[lpW a na ca b nb cb c nc cc,lrW r xa xn xc ya yn yc ra rn rc] w fun e w'=>e=.returned (.bool (aD bh A B C r))/\Ext w w':=by
 by_cases h1:r.status=1
 ·exact rB h h' ok h1
 by_cases h2:r.status=2
 ·exact rC h h' ok h2
 by_cases h3:r.status=3
 ·exact rD h h' ok h3
 have HE:=ae (show aD bh A B C r=false by unfold aD;rw [if_neg h1,if_neg h2,if_neg h3]);have T0:=ae (show Two w ((w.alloc (be a na ca b nb cb c nc cc)).alloc (bI r xa xn xc ya yn yc ra rn rc)) a na ca b nb cb c nc cc xa xn xc ya yn yc ra rn rc r A B C from ⟨Ext.refl _,(h.ext (Ext.alloc _ _)).ext (Ext.alloc _ _),(h'.ext (Ext.alloc _ _)).ext (Ext.alloc _ _)⟩);have HV:=ae (dO T0.out.lp);rw [ok] at HV;obtain ⟨st,rX,rY,rr,rv,rp⟩:=r;obtain ⟨v1,v2⟩:=rv;simp only at h1 h2 h3;have e1:(st == 1)=false:=by simp;omega
 have e2:(st == 2)=false:=by simp;omega
 have e3:(st == 3)=false:=by simp;omega
 clear h h' h1 h2 h3;go_enter Tryz.func162,Tryz.ntmps162
 obtain ⟨p0,p1,p2⟩:=T0.out.p;obtain ⟨q0,q1,q2,q3,q4,q5⟩:=T0.out.q;go_wp2_with fail;refine HV.out.mono ?_;rintro e w1 ⟨rfl,hx⟩;have T1:=ae (T0.out.grow hx);clear hx p0 p1 p2 q0 q1 q2 q3 q4 q5;obtain ⟨p0,p1,p2⟩:=T1.out.p;obtain ⟨q0,q1,q2,q3,q4,q5⟩:=T1.out.q;go_wp2_with fail;go_ret;exact ⟨ag HE.out.symm,T1.out.all⟩
end
end Go.Proofs.YthjjfkeacobikaaGreat
namespace Go.Proofs.YthjjfkeacobikaaGreat
set_option maxRecDepth 100000
open Go.RowKit
set_option maxHeartbeats 4000000 in
theorem kl {w:World} {k1 k2:Int} {a b:Option Addr} {n cap n' cap':Nat} {A B:List (Int × Int)} (h:Rats w a n cap A) (h':Rats w b n' cap' B) (hbig:n<=1048576) :
 Calls Tryz.prog 145 #[.slice a n cap,ratV k1 k2,.slice b n' cap'] w fun e w'=>(∃ v,e=.returned (.tuple #[v,.bool (sclL A (k1,k2) B).isSome])/\OwnR w' w.heap.size v ((sclL A (k1,k2) B).getD []))/\Ext w w':=by
 have HL:=ae h.hlen;have HL':=ae h'.hlen;have hmax:=h.hmax;have hcap:=h.hcap;have hmax':=h'.hmax;have hcap':=h'.hcap;have HA:=ae h;have HB':=ae h';have HX:=ae (Ext.alloc w (.cells #[.int .i64 k1,.int .i64 k2] 43));clear h h';by_cases hne:n=n'
 ·subst hne;have HS:=ae (show sclL A (k1,k2) B=runT (sclF A (k1,k2) B) n by unfold sclL;rw [HL.out,HL'.out,if_pos rfl]);have HO:=ae (OwnR.made (w.alloc (.cells #[.int .i64 k1,.int .i64 k2] 43)) (w.heap.size+1) (by simp));go_enter Tryz.func145,Tryz.ntmps145
  go_wp2_with fail
  go_loopg [8,9] n (fun gk o i wr=>∃ (k:Nat) (a1:Option Addr) (n1 p1:Nat) (r:List (Int × Int)),Hid (gk+k=n)/\i=.int .i64 (k:Int)/\o=.slice a1 n1 p1/\Hid (runT (sclF A (k1,k2) B) k=some r)/\Hid (OwnR wr (w.heap.size+1) (.slice a1 n1 p1) r)/\Hid (Ext (w.alloc (.cells #[.int .i64 k1,.int .i64 k2] 43)) wr))
  case atStart=>exact ⟨0,_,_,_,[],ae (by omega),rfl,rfl,ae rfl,ae (by simpa using HO.out),ae (Ext.alloc _ _)⟩
  case round =>
   obtain ⟨k,a1,n1,p1,r,HK,rfl,rfl,HR,HO1,HX1⟩:=hrel;have hszr:=HX1.out.size;rw [World.size_alloc] at hszr;by_cases hlt:k<n
   ·have hkc0:wr.cell? ⟨w.heap.size,0,none⟩=some (.int .i64 k1):=HX1.out.cellSome (by simp);have hkc1:wr.cell? ⟨w.heap.size,1,none⟩=some (.int .i64 k2):=HX1.out.cellSome (by simp);obtain ⟨ab,aoff,ax,ay,ha,hax,hac0,hac1⟩:=((HA.out.ext HX.out).ext HX1.out).at hlt;obtain ⟨bb,boff,bx,by',hb,hbx,hbc0,hbc1⟩:=((HB'.out.ext HX.out).ext HX1.out).at hlt;subst ha hb;have HAX:=ae hax;have HBX:=ae hbx;obtain ⟨p,q,one,hm⟩:∃ p q ok,mulR (k1,k2) (bx,by')=((p,q),ok):=⟨_,_,_,rfl⟩;have HM:=ae hm;obtain ⟨p2,q2,two,hs2⟩:∃ u v ok,addR (ax,ay) (p,q)=((u,v),ok):=⟨_,_,_,rfl⟩;have HS2:=ae hs2;clear hax hbx hm hs2;go_upto_region 7 with fail
    go_cut [10,11] (fun sx so wx=>∃ g:Nat,sx=.pointer (some ⟨g,0,none⟩)/\so=.bool one/\Hid (ah wr wx g p q))
    case first =>
     have hk2:Ext wr wr.drew:=Ext.drew wr;have hka:Ext wr (wr.alloc (.cells #[.int .i64 0,.int .i64 0] 43)).drew:=(Ext.alloc _ _).trans (Ext.drew _);have HKEEP:=ae (fun (w':World) (h:Ext wr w')=>(⟨h.cellSome hkc0,h.cellSome hkc1,h.cellSome hbc0,h.cellSome hbc1,h⟩:w'.cell? ⟨w.heap.size,0,none⟩=some (.int .i64 k1)/\w'.cell? ⟨w.heap.size,1,none⟩=some (.int .i64 k2)/\w'.cell? ⟨bb,boff+k*2,none⟩=some (.int .i64 bx)/\w'.cell? ⟨bb,boff+k*2+1,none⟩=some (.int .i64 by')/\Ext wr w'))
     go_region_held3 (fun w'=>w'.cell? ⟨w.heap.size,0,none⟩=some (.int .i64 k1)/\w'.cell? ⟨w.heap.size,1,none⟩=some (.int .i64 k2)/\w'.cell? ⟨bb,boff+k*2,none⟩=some (.int .i64 bx)/\w'.cell? ⟨bb,boff+k*2+1,none⟩=some (.int .i64 by')/\Ext wr w')
      (first
        | with_reducible exact HKEEP.out _ hk2
        | with_reducible exact HKEEP.out _ hka
        | with_reducible exact HKEEP.out _ ((hk2.setCell (by first|(simp;done)|(simp;omega)) _).setCell (by first|(simp;done)|(simp;omega)) _)
        | with_reducible exact HKEEP.out _ (hk2.trans (Ext.alloc _ _))
        | with_reducible exact HKEEP.out _ (hBB.put _ _).ext)
      (first
        | (go_at_call 211
           (with_reducible refine (pf k1 k2 bx by' _).mono ?_)
           rw [HM.out];rintro e w3 ⟨rfl,hx_w3⟩
           first|(with_reducible have hBB:=ah.grow hBB hx_w3)|(with_reducible have hBB:=ah.firstD hx_w3)|(with_reducible have hBB:=ah.laterD hk2 hx_w3)|skip
           first|(have b0_:=hBB.c0;have b1_:=hBB.c1;have fb_:=hBB.free)|skip
           have hk2:Ext wr w3:=by first|with_reducible exact hk2.trans hx_w3|with_reducible exact hka.trans hx_w3|with_reducible exact (hk2.trans (Ext.alloc _ _)).trans hx_w3
           have hk2s:=hk2.size)
        | fail)
     all_goals (go_wp2_with fail;go_meet;first|exact ⟨_,rfl,rfl,ae (hBB.put _ _)⟩|exact ⟨_,rfl,rfl,ae (ah.new hk2 _ _)⟩|exact ⟨_,rfl,rfl,ae (ah.new' hk2 _ _ (by simp))⟩)
    obtain ⟨g,rfl,rfl,HB1⟩:=hcut;have g0:=HB1.out.c0;have g1:=HB1.out.c1;replace hac0:=HB1.out.ext.cellSome hac0;replace hac1:=HB1.out.ext.cellSome hac1;clear hkc0 hkc1 hbc0 hbc1;go_upto_region 8 with fail
    go_cut [12,13] (fun sx so wx=>∃ g2:Nat,sx=.pointer (some ⟨g2,0,none⟩)/\so=.bool two/\Hid (ah wc wx g2 p2 q2))
    case first =>
     have hk2:Ext wc wc.drew:=Ext.drew wc;have hka:Ext wc (wc.alloc (.cells #[.int .i64 0,.int .i64 0] 43)).drew:=(Ext.alloc _ _).trans (Ext.drew _);have HKEEP:=ae (fun (w':World) (h:Ext wc w')=>(⟨h.cellSome hac0,h.cellSome hac1,h.cellSome g0,h.cellSome g1,h⟩:w'.cell? ⟨ab,aoff+k*2,none⟩=some (.int .i64 ax)/\w'.cell? ⟨ab,aoff+k*2+1,none⟩=some (.int .i64 ay)/\w'.cell? ⟨g,0,none⟩=some (.int .i64 p)/\w'.cell? ⟨g,1,none⟩=some (.int .i64 q)/\Ext wc w'))
     go_region_held3 (fun w'=>w'.cell? ⟨ab,aoff+k*2,none⟩=some (.int .i64 ax)/\w'.cell? ⟨ab,aoff+k*2+1,none⟩=some (.int .i64 ay)/\w'.cell? ⟨g,0,none⟩=some (.int .i64 p)/\w'.cell? ⟨g,1,none⟩=some (.int .i64 q)/\Ext wc w')
      (first
        | with_reducible exact HKEEP.out _ hk2
        | with_reducible exact HKEEP.out _ hka
        | with_reducible exact HKEEP.out _ ((hk2.setCell (by first|(simp;done)|(simp;omega)) _).setCell (by first|(simp;done)|(simp;omega)) _)
        | with_reducible exact HKEEP.out _ (hk2.trans (Ext.alloc _ _))
        | with_reducible exact HKEEP.out _ (hBB.put _ _).ext)
      (first
        | (go_at_call 37
           (with_reducible refine (iW ax ay p q _).mono ?_)
           rw [HS2.out];rintro e w4 ⟨rfl,hx_w4⟩
           first|(with_reducible have hBB:=ah.grow hBB hx_w4)|(with_reducible have hBB:=ah.firstD hx_w4)|(with_reducible have hBB:=ah.laterD hk2 hx_w4)|skip
           first|(have b0_:=hBB.c0;have b1_:=hBB.c1;have fb_:=hBB.free)|skip
           have hk2:Ext wc w4:=by first|with_reducible exact hk2.trans hx_w4|with_reducible exact hka.trans hx_w4|with_reducible exact (hk2.trans (Ext.alloc _ _)).trans hx_w4
           have hk2s:=hk2.size)
        | fail)
     all_goals (go_wp2_with fail;go_meet;first|exact ⟨_,rfl,rfl,ae (hBB.put _ _)⟩|exact ⟨_,rfl,rfl,ae (ah.new hk2 _ _)⟩|exact ⟨_,rfl,rfl,ae (ah.new' hk2 _ _ (by simp))⟩)
    obtain ⟨g2,rfl,rfl,HB2⟩:=hcut;have X2:=ae ((HX1.out.trans HB1.out.ext).trans HB2.out.ext);have HO2:=ae ((HO1.out.ext HB1.out.ext).ext HB2.out.ext);have h0:=HB2.out.c0;have h1:=HB2.out.c1;have HF:=ae (show sclF A (k1,k2) B k=if (one&&two)=true then some (p2,q2) else none by unfold sclF;rw [HAX.out,HBX.out,HM.out];simp only;rw [HS2.out];simp only [Bool.and_eq_true]);clear hac0 hac1 g0 g1;cases hb12:(one&&two)
    ·have HN:=ae (show runT (sclF A (k1,k2) B) n=none from fu HR.out (by rw [HF.out,hb12];rfl) hlt);cases one
     case' true=>(have h2:two=false:=by simpa using hb12);subst h2
     all_goals
      clear hb12;go_wp2_with fail;have hszz:=X2.out.size;rw [World.size_alloc] at hszz
      go_ret2
      exact ⟨⟨_,eE (by rw [HS.out,HN.out];rfl),by rw [HS.out,HN.out];exact OwnR.made _ _ (by omega)⟩,HX.out.trans (X2.out.trans (Ext.alloc _ _))⟩
    ·obtain ⟨rfl,rfl⟩:one=true/\two=true:=by simpa using hb12
     have HR2:=ae (du (x:=(p2,q2)) HR.out (by rw [HF.out];rfl));have HLR:=ae (cI HR.out);have hszc:=X2.out.size;rw [World.size_alloc] at hszc;clear hb12
     go_wp2_with (first
      | (at_builtin;refine aG rfl _ _ rfl (w.heap.size+1) (.slice a1 n1 p1) _ rfl (HO2.out.ext (Ext.alloc _ _)) _ 1 _ [(p2,q2)] rfl (Rats.one' _ _ _ _ _ (by simp)) (by rw [HLR.out];omega) (by simp;omega) ?_;intro v2 w4 ho hg hnear;obtain ⟨a2,n2,c2,rfl,HN2⟩:=ho.var;have HO4:=ae ho;have X5:=ae (ak (X2.out.trans (Ext.alloc _ _)) hg (fun j hj=>by have:=(HO2.out.lt j hj).1;simpa using this));clear ho hg hnear))
     go_roundg (gk-1)
     case measure=>have:=HK.out;omega
     case rel=>exact ⟨k+1,a2,n2,c2,_,ae (by have:=HK.out;omega),by go_num,rfl,HR2,HO4,X5⟩
   ·have hkn:k=n:=by have:=HK.out;omega
    subst hkn;go_wp2_with fail
    go_ret2
    exact ⟨⟨_,eE (by rw [HS.out,HR.out];rfl),by rw [HS.out,HR.out];exact HO1.out.mono (Nat.le_succ _)⟩,HX.out.trans HX1.out⟩
 ·have HN:=ae (show sclL A (k1,k2) B=none by unfold sclL;rw [HL.out,HL'.out,if_neg hne]);go_enter Tryz.func145,Tryz.ntmps145
  go_wp2_with fail;have HO:=ae (OwnR.made (w.alloc (.cells #[.int .i64 k1,.int .i64 k2] 43)) w.heap.size (by simp))
  go_ret2
  exact ⟨⟨_,eE (by rw [HN.out];rfl),by rw [HN.out];simpa using HO.out⟩,HX.out.trans (Ext.alloc _ _)⟩
set_option maxHeartbeats 4000000 in
theorem kJ {w:World} {a:Option Addr} {n cap:Nat} {l:List (Int × Int)} (h:Rats w a n cap l) (hb:n<=1099511627776) :
 Calls Tryz.prog 163 #[.slice a n cap] w fun e w'=>(∃ v,e=.returned v/\OwnR w' w.heap.size v l)/\Ext w w':=by
 have HI:=ae (h.ext (Ext.alloc w (.cells #[] 43)));have HO:=ae (OwnR.made w w.heap.size (Nat.le_refl _));clear h;go_enter Tryz.func163,Tryz.ntmps163
 go_wp2_with (first|(at_builtin;refine aG rfl _ _ rfl w.heap.size _ _ rfl HO.out _ n _ l rfl HI.out (by simpa using hb) (by simp) ?_;intro v' w1 ho hg hnear));go_ret;exact ⟨⟨_,rfl,by simpa using ho⟩,ak (Ext.alloc _ _) hg (fun k hk=>Nat.le_of_eq (Option.some.inj (show some w.heap.size=some k from hk)))⟩
set_option maxHeartbeats 8000000 in
theorem rG {w:World} {k1 k2:Int} {a:Option Addr} {n cap:Nat} {A:List (Int × Int)} (h:Rats w a n cap A) (hbig:n<=1048576) :
 Calls Tryz.prog 144 #[.slice a n cap,ratV k1 k2] w fun e w'=>(∃ v,e=.returned (.tuple #[v,.bool (divL A (k1,k2)).isSome])/\OwnR w' w.heap.size v ((divL A (k1,k2)).getD []))/\Ext w w':=by
 have HL:=ae h.hlen;have hmax:=h.hmax;have hcap:=h.hcap;have HA:=ae h;have HX:=ae (Ext.alloc w (.cells #[.int .i64 k1,.int .i64 k2] 43));have HS:=ae (show divL A (k1,k2)=runT (divF A (k1,k2)) n by unfold divL;rw [h.hlen]);have HO:=ae (OwnR.made (w.alloc (.cells #[.int .i64 k1,.int .i64 k2] 43)) (w.heap.size+1) (by simp));clear h;go_enter Tryz.func144,Tryz.ntmps144
 go_wp2_with fail
 go_loopg [6,7] n (fun gk o i wr=>∃ (k:Nat) (a1:Option Addr) (n1 p1:Nat) (r:List (Int × Int)),Hid (gk+k=n)/\i=.int .i64 (k:Int)/\o=.slice a1 n1 p1/\Hid (runT (divF A (k1,k2)) k=some r)/\Hid (OwnR wr (w.heap.size+1) (.slice a1 n1 p1) r)/\Hid (Ext (w.alloc (.cells #[.int .i64 k1,.int .i64 k2] 43)) wr))
 case atStart=>exact ⟨0,_,_,_,[],ae (by omega),rfl,rfl,ae rfl,ae (by simpa using HO.out),ae (Ext.alloc _ _)⟩
 case round =>
  obtain ⟨k,a1,n1,p1,r,HK,rfl,rfl,HR,HO1,HX1⟩:=hrel;have hszr:=HX1.out.size;rw [World.size_alloc] at hszr;by_cases hlt:k<n
  ·have hkc0:wr.cell? ⟨w.heap.size,0,none⟩=some (.int .i64 k1):=HX1.out.cellSome (by simp);have hkc1:wr.cell? ⟨w.heap.size,1,none⟩=some (.int .i64 k2):=HX1.out.cellSome (by simp);obtain ⟨ab,aoff,ax,ay,ha,hax,hac0,hac1⟩:=((HA.out.ext HX.out).ext HX1.out).at hlt;subst ha;have HAX:=ae hax;obtain ⟨p,q,one,hm⟩:∃ p q ok,divR (ax,ay) (k1,k2)=((p,q),ok):=⟨_,_,_,rfl⟩;have HM:=ae hm;clear hax hm;go_upto_region 5 with fail
   go_cut [8,9] (fun sx so wx=>∃ g:Nat,sx=.pointer (some ⟨g,0,none⟩)/\so=.bool one/\Hid (ah wr wx g p q))
   case first =>
    have hk2:Ext wr wr.drew:=Ext.drew wr;have hka:Ext wr (wr.alloc (.cells #[.int .i64 0,.int .i64 0] 43)).drew:=(Ext.alloc _ _).trans (Ext.drew _);have HKEEP:=ae (fun (w':World) (h:Ext wr w')=>(⟨h.cellSome hkc0,h.cellSome hkc1,h.cellSome hac0,h.cellSome hac1,h⟩:w'.cell? ⟨w.heap.size,0,none⟩=some (.int .i64 k1)/\w'.cell? ⟨w.heap.size,1,none⟩=some (.int .i64 k2)/\w'.cell? ⟨ab,aoff+k*2,none⟩=some (.int .i64 ax)/\w'.cell? ⟨ab,aoff+k*2+1,none⟩=some (.int .i64 ay)/\Ext wr w'))
    go_region_held3 (fun w'=>w'.cell? ⟨w.heap.size,0,none⟩=some (.int .i64 k1)/\w'.cell? ⟨w.heap.size,1,none⟩=some (.int .i64 k2)/\w'.cell? ⟨ab,aoff+k*2,none⟩=some (.int .i64 ax)/\w'.cell? ⟨ab,aoff+k*2+1,none⟩=some (.int .i64 ay)/\Ext wr w')
     (first
       | with_reducible exact HKEEP.out _ hk2
       | with_reducible exact HKEEP.out _ hka
       | with_reducible exact HKEEP.out _ ((hk2.setCell (by first|(simp;done)|(simp;omega)) _).setCell (by first|(simp;done)|(simp;omega)) _)
       | with_reducible exact HKEEP.out _ (hk2.trans (Ext.alloc _ _))
       | with_reducible exact HKEEP.out _ (hBB.put _ _).ext)
     (first
       | (go_at_call 183
          (with_reducible refine (oY ax ay k1 k2 _).mono ?_)
          rw [HM.out];rintro e w3 ⟨rfl,hx_w3⟩
          first|(with_reducible have hBB:=ah.grow hBB hx_w3)|(with_reducible have hBB:=ah.firstD hx_w3)|(with_reducible have hBB:=ah.laterD hk2 hx_w3)|skip
          first|(have b0_:=hBB.c0;have b1_:=hBB.c1;have fb_:=hBB.free)|skip
          have hk2:Ext wr w3:=by first|with_reducible exact hk2.trans hx_w3|with_reducible exact hka.trans hx_w3|with_reducible exact (hk2.trans (Ext.alloc _ _)).trans hx_w3
          have hk2s:=hk2.size)
       | fail)
    all_goals (go_wp2_with fail;go_meet;first|exact ⟨_,rfl,rfl,ae (hBB.put _ _)⟩|exact ⟨_,rfl,rfl,ae (ah.new hk2 _ _)⟩|exact ⟨_,rfl,rfl,ae (ah.new' hk2 _ _ (by simp))⟩)
   obtain ⟨g,rfl,rfl,HB1⟩:=hcut;have g0:=HB1.out.c0;have g1:=HB1.out.c1;have X2:=ae (HX1.out.trans HB1.out.ext);have HO2:=ae (HO1.out.ext HB1.out.ext);have HF:=ae (show divF A (k1,k2) k=if one=true then some (p,q) else none by unfold divF;rw [HAX.out,HM.out]);have hszc:=X2.out.size;rw [World.size_alloc] at hszc;clear hkc0 hkc1 hac0 hac1;cases one
   ·have HN:=ae (show runT (divF A (k1,k2)) n=none from fu HR.out (by rw [HF.out];rfl) hlt);go_wp2_with fail
    go_ret2
    exact ⟨⟨_,eE (by rw [HS.out,HN.out];rfl),by rw [HS.out,HN.out];exact OwnR.made _ _ (by omega)⟩,HX.out.trans (X2.out.trans (Ext.alloc _ _))⟩
   ·have HR2:=ae (du (x:=(p,q)) HR.out (by rw [HF.out];rfl));have HLR:=ae (cI HR.out)
    go_wp2_with (first
     | (at_builtin;refine aG rfl _ _ rfl (w.heap.size+1) (.slice a1 n1 p1) _ rfl (HO2.out.ext (Ext.alloc _ _)) _ 1 _ [(p,q)] rfl (Rats.one' _ _ _ _ _ (by simp)) (by rw [HLR.out];omega) (by simp;omega) ?_;intro v2 w4 ho hg hnear;obtain ⟨a2,n2,c2,rfl,HN2⟩:=ho.var;have HO4:=ae ho;have X5:=ae (ak (X2.out.trans (Ext.alloc _ _)) hg (fun j hj=>by have:=(HO2.out.lt j hj).1;simpa using this));clear ho hg hnear))
    go_roundg (gk-1)
    case measure=>have:=HK.out;omega
    case rel=>exact ⟨k+1,a2,n2,c2,_,ae (by have:=HK.out;omega),by go_num,rfl,HR2,HO4,X5⟩
  ·have hkn:k=n:=by have:=HK.out;omega
   subst hkn;go_wp2_with fail
   go_ret2
   exact ⟨⟨_,eE (by rw [HS.out,HR.out];rfl),by rw [HS.out,HR.out];exact HO1.out.mono (Nat.le_succ _)⟩,HX.out.trans HX1.out⟩
section
variable {w:World} {ra:Option Addr} {rn rc:Nat} {ba:Option Addr} {bn bc:Nat} {t:Tb} {n m:Nat} {T0:Nat->Nat->Rat}
structure TbN (w:World) (ra:Option Addr) (rn rc:Nat) (ba:Option Addr) (bn bc:Nat) (t:Tb) (n m:Nat):Prop where
 tb:TbC w ra m rc ba m bc t
 rn:rn=m
 bn:bn=m
 cols:t.cols=n
theorem TInv.sizes (h:TInv n m T0 t) (hc:TbC w ra rn rc ba bn bc t):rn=m/\bn=m:=⟨by rw [<-hc.rows.hlen];exact h.len,by rw [<-hc.basis.hlen];exact h.blen⟩
set_option maxHeartbeats 8000000 in
theorem iZ (h:TbC w ra m rc ba m bc t) (hT:TInv n m T0 t) (hn:n<=1000) (hm:m<=1000) :
 Calls Tryz.prog 142 #[tbW ra m rc ba m bc (n:Int)] w fun e w'=>e=.returned (.bool true)/\Ext w w':=by
 have hx0:=Ext.alloc w (bQ ra m rc ba m bc (n:Int));have HX0:=ae hx0;have H:=ae (h.ext hx0);have HTB:=ae (show (w.alloc (bQ ra m rc ba m bc (n:Int))).heap[w.heap.size]?=some (.cells #[.slice ra m rc,.slice ba m bc,.int .i64 (n:Int)] 83 (0,0)) from aj _ _ _ rfl);have h1:=h.rows.hcap;have h2:=h.rows.hmax;have h3:=h.basis.hcap;have h4:=h.basis.hmax;have HT:=ae hT;clear h hT hx0;have hn0:¬ (n:Int)<0:=by omega
 have hn1:¬ (n:Int) > 1000:=by omega
 have hmm:((m:Int) != (m:Int))=false:=by simp
 go_enter Tryz.func142,Tryz.ntmps142
 go_wp2_with fail
 go_loopg [4] m (fun gk ii wr=>∃ k:Nat,Hid (gk+k=m)/\ii=.int .i64 (k:Int)/\Hid (Ext (w.alloc (bQ ra m rc ba m bc (n:Int))) wr))
 case atStart=>exact ⟨0,ae (by omega),rfl,ae (Ext.refl _)⟩
 case round =>
  obtain ⟨g1,h_g1⟩:∃ x,x=gk:=⟨_,rfl⟩;subst h_g1;obtain ⟨wr1,h_wr1⟩:∃ x,x=wr:=⟨_,rfl⟩;subst h_wr1;obtain ⟨k,HK,rfl,HX⟩:=hrel;have p0:=aq (HX.out.blk HTB.out);have p1:=aw (HX.out.blk HTB.out);have p2:=az (HX.out.blk HTB.out);by_cases hlt:k<m
  ·obtain ⟨zb,zoff,ya,yn,yc,hza,hz0,hrow⟩:=(H.out.ext HX.out).rows.at hlt;subst hza;have hyn:yn=n+m+1:=by rw [<-hrow.hlen];exact (HT.out.row k hlt).1
   have hy1:=hrow.hcap;have hy2:=hrow.hmax;obtain ⟨eb,eoff,hea,he0⟩:=(H.out.ext HX.out).basis.at hlt;subst hea;obtain ⟨bk,hbk⟩:∃ x,x=t.basis[k]?.getD 0:=⟨_,rfl⟩;rw [<-hbk] at he0;have hbr:0<=bk/\bk<n+m:=by
    rw [hbk,List.getElem?_eq_getElem (by rw [HT.out.blen];exact hlt)];exact HT.out.bas _ (List.getElem_mem _)
   have HIN:=ae (fun w'=>bw bk 0 ((n:Int)+(m:Int)-1) w');rw [show inB bk 0 ((n:Int)+(m:Int)-1)=true by unfold inB;simp;omega] at HIN;have hw1:IntKind.i64.wrap ((n:Int)+(m:Int))=(n:Int)+(m:Int):=by rw [IntKind.wrap_i64];omega
   have hw2:IntKind.i64.wrap ((n:Int)+(m:Int)+1)=(n:Int)+(m:Int)+1:=by rw [IntKind.wrap_i64];omega
   have hw3:IntKind.i64.wrap ((n:Int)+(m:Int)-1)=(n:Int)+(m:Int)-1:=by rw [IntKind.wrap_i64];omega
   have hyy:((yn:Int) != (n:Int)+(m:Int)+1)=false:=by simp;omega
   have hk0:(0:Int)<=(k:Int):=by omega
   have hk1:(k:Int)<(m:Int):=by omega
   clear hrow hyn hbk hbr;go_upto_region 7 with fail;have hk2:Ext wr1 wr1.drew:=Ext.drew wr1;have HKEEP:=ae (fun (w':World) (h:Ext wr1 w')=>(⟨h.cellSome p0,h.cellSome p1,h.cellSome p2,h.cellSome hz0,h.cellSome he0,h⟩:w'.cell? ⟨w.heap.size,0,none⟩=some (.slice (some ⟨zb,zoff,none⟩) m rc)/\w'.cell? ⟨w.heap.size,1,none⟩=some (.slice (some ⟨eb,eoff,none⟩) m bc)/\w'.cell? ⟨w.heap.size,2,none⟩=some (.int .i64 (n:Int))/\w'.cell? ⟨zb,zoff+k,none⟩=some (.slice ya yn yc)/\w'.cell? ⟨eb,eoff+k,none⟩=some (.int .i64 bk)/\Ext wr1 w'));refine wp_region_held_drew (S:=(fun w'=>w'.cell? ⟨w.heap.size,0,none⟩=some (.slice (some ⟨zb,zoff,none⟩) m rc)/\w'.cell? ⟨w.heap.size,1,none⟩=some (.slice (some ⟨eb,eoff,none⟩) m bc)/\w'.cell? ⟨w.heap.size,2,none⟩=some (.int .i64 (n:Int))/\w'.cell? ⟨zb,zoff+k,none⟩=some (.slice ya yn yc)/\w'.cell? ⟨eb,eoff+k,none⟩=some (.int .i64 bk)/\Ext wr1 w')) (by kernel_rfl) ?_ (fun hHeld=>?_)
   ·exact HKEEP.out _ hk2
   refine tk 0 ?_;refine tk 1 ?_;refine tk 2 ?_;refine tk 3 ?_;refine tk 4 ?_;refine tk 5 ?_;refine tk 6 ?_;refine tk 7 ?_;refine tk 8 ?_;refine tk 9 ?_;refine tk 10 ?_;refine tk 11 ?_;refine tk 12 ?_;refine tk 13 ?_;refine tk 14 ?_;refine tk 15 ?_;refine tk 16 ?_;refine tk 17 ?_;refine tk 18 ?_;refine tk 19 ?_;refine tk 20 ?_;refine tk 21 ?_;refine tk 22 ?_;refine rd (i:=23) (h:=fun K hK=>?_);go_simp
   (go_at_call 95;refine (HIN.out _).mono ?_;rintro e w3 ⟨rfl,rfl⟩)
   go_wp2_with fail;refine hK.out _ _ ?_ (fun hHeld=>?_)
   ·exact HKEEP.out _ hk2
   clear hK K
   try simp only [Act.put,sA,sB,sC]
   refine tk 24 ?_;refine tk 25 ?_;refine wpAnyH_done (by kernel_rfl) ?_ _;have HX2:=ae (HX.out.trans hk2);clear hw1 hw2 hw3 hyy p0 p1 p2 hz0 he0;go_wp2_with fail
   go_roundg (g1-1)
   case measure=>have:=HK.out;omega
   case rel=>exact ⟨k+1,ae (by have:=HK.out;omega),by go_num,HX2⟩
  ·have hkm:m=k:=by have:=HK.out;omega
   subst hkm;go_wp2_with fail;go_ret;exact ⟨rfl,HX0.out.trans HX.out⟩
end
end Go.Proofs.YthjjfkeacobikaaGreat
