import Derived.Test.YthjjfkeacobikaaGreatPuAllG35
import Derived.Test.YthjjfkeacobikaaGreatPuAllG36
import Derived.Test.YthjjfkeacobikaaGreatPuAllG44
import Derived.Test.YthjjfkeacobikaaGreatPuAllG45
import Derived.Test.YthjjfkeacobikaaGreatPuAllG38
set_option linter.unusedVariables false
set_option linter.unusedSimpArgs false
namespace Go.Proofs.YthjjfkeacobikaaGreat
set_option maxRecDepth 100000
open Go.RowKit
theorem oR (o:Bool) (l:List (Int × Int)) (r:List (Int × Int × Int)) (x:Int):fB o l r x o l r x=true:=by unfold fB;simp
set_option maxHeartbeats 16000000 in
theorem l_FnPure {w:World} {a:Option Addr} {n cap:Nat} (h:dW w a n cap) :
 Calls Tryz.prog 6 #[.slice a n cap] w fun e w'=>e=.returned (.bool true)/\Ext w w':=by
 have hcap:=h.hcap;have hmax:=h.hmax;have H:=ae h;clear h;by_cases hbig:1048576<n
 ·go_enter Tryz.func6,Tryz.ntmps6
  go_wp2_with fail;go_in;go_wp2_with fail;go_ret;exact ⟨rfl,Ext.refl _⟩
 have hb:n<=1048576:=by omega
 go_enter Tryz.func6,Tryz.ntmps6
 go_wp2_with fail;go_in;go_wp2_with fail;refine (ij H.out hb).mono ?_;rintro e w1 ⟨⟨y,b,m,c,V,rfl,hV,hm⟩,hx⟩;obtain ⟨W,hW⟩:∃ W,W=w1.alloc (.cells #[.int .i64 y,.slice b m c] 29):=⟨_,rfl⟩;have hxW:Ext w1 W:=by rw [hW];exact Ext.alloc _ _
 have XA:=ae (hx.trans hxW);have HV:=ae (hV.ext hxW);have HG0:=ae (show W.cell? ⟨w1.heap.size,0,none⟩=some (.int .i64 y) by rw [hW];simp);have HG1:=ae (show W.cell? ⟨w1.heap.size,1,none⟩=some (.slice b m c) by rw [hW];simp);clear hV hx hxW;go_upto_region 4 with fail;rw [<-hW];clear hW;generalize w1.heap.size=bg at HG0 HG1 ⊢;have g0:=HG0.out;have g1:=HG1.out;have hbd:=nucR_bd y V;obtain ⟨r,hr⟩:∃ r,r=nucR y V:=⟨_,rfl⟩;have HI:=ae (fun (w':World) (hx:Ext W w')=>jL (p:=y) (HV.out.ext hx));have HS:=ae (fun (w':World) (hx:Ext W w')=>kd (p:=y) (HV.out.ext hx));rw [<-hr] at HI HS hbd;obtain ⟨ro,rp,rs,rk⟩:=r;obtain ⟨hbd1,hbd2⟩:=hbd;clear hr;go_wp2_with fail;refine (HI.out _ (Ext.refl _)).mono ?_;rintro e w2 ⟨⟨pa,pn,pc,sa,sn,sc,rfl,hpt,hst⟩,hx⟩;have hpn:pn<=5:=by rw [<-hpt.rats.hlen];exact hbd1
 have hsn:sn<=2000:=by have h1:=hst.slc.hlen;rw [<-h1];exact hbd2
 have HPB:=ae (fun h0:0<pn=>gu hpt h0);have HSB:=ae (fun h0:0<sn=>gu hst h0);obtain ⟨W2,hW2⟩:∃ E,E=w2.alloc (.cells #[.bool ro,.slice pa pn pc,.slice sa sn sc,.int .i64 (rk:Int)] 73):=⟨_,rfl⟩;obtain ⟨br,hbr⟩:∃ g,g=w2.heap.size:=⟨_,rfl⟩;have X2:=ae (show Ext w2 W2 by rw [hW2];exact Ext.alloc _ _);have XW:=ae (hx.trans X2.out);have HRB:=ae (show W2.heap[br]?=some (.cells #[.bool ro,.slice pa pn pc,.slice sa sn sc,.int .i64 (rk:Int)] 73 (0,0)) by rw [hW2,hbr];exact aj _ _ _ rfl);rw [<-hbr] at HPB HSB;have hsb:W.heap.size<=br:=by rw [hbr];exact hx.size
 clear hpt hst hx g0 g1;go_upto_region 5 with fail;rw [<-hW2,<-hbr];clear hW2 hbr;go_wp2_with fail
 go_loopg [5] pn (fun gk ii wr=>∃ (k:Nat),Hid (gk+k=pn)/\ii=.int .i64 (k:Int)/\Hid (Ext W wr)/\Hid (wr.heap[br]?=some (.cells #[.bool ro,.slice pa pn pc,.slice sa sn sc,.int .i64 (rk:Int)] 73 (0,0)))/\Hid (0<pn->∃ g,pa=some ⟨g,0,none⟩/\W.heap.size<=g/\g<br/\Blk wr g (pn*2))/\Hid (0<sn->∃ g,sa=some ⟨g,0,none⟩/\W.heap.size<=g/\g<br/\Blk wr g (sn*3)))
 case atStart =>
  refine ⟨0,ae (by omega),rfl,XW,HRB,ae fun h0=>?_,ae fun h0=>?_⟩
  ·obtain ⟨g,e,h1,h2,h3⟩:=HPB.out h0;exact ⟨g,e,h1,h2,h3.ext X2.out⟩
  ·obtain ⟨g,e,h1,h2,h3⟩:=HSB.out h0;exact ⟨g,e,h1,h2,h3.ext X2.out⟩
 case round =>
  obtain ⟨g1,h_g1⟩:∃ x,x=gk:=⟨_,rfl⟩;subst h_g1;obtain ⟨wr,h_wr⟩:∃ x,x=wr:=⟨_,rfl⟩;subst h_wr;obtain ⟨k,HK,rfl,HX,HR,HP,HQ⟩:=hrel;obtain ⟨q0,q1,q2,q3,qf⟩:=nbox HR.out;clear q0 q2 q3 qf;by_cases hlt:k<pn
  ·obtain ⟨g,rfl,hg1,hg2,hblk⟩:=HP.out (by omega);obtain ⟨u,hu⟩:=hblk.cell (k:=k*2) (by omega);have hf:=hblk.free (k*2);have hki:(k:Int)<(pn:Int):=by omega
   have hk0:(0:Int)<=(k:Int):=by omega
   have HX2:=ae (HX.out.store (k*2) hg1 (.int .i64 777));have HR2:=ae (show (wr.setCell ⟨g,k*2,none⟩ (.int .i64 777)).heap[br]?=some (.cells #[.bool ro,.slice (some ⟨g,0,none⟩) pn pc,.slice sa sn sc,.int .i64 (rk:Int)] 73 (0,0)) from (heap_setCell_other _ _ _ _ (by show br ≠ g;omega)).trans HR.out);have HP2:=ae (show 0<pn->∃ g',some (⟨g,0,none⟩:Addr)=some ⟨g',0,none⟩/\W.heap.size<=g'/\g'<br/\Blk (wr.setCell ⟨g,k*2,none⟩ (.int .i64 777)) g' (pn*2) from fun _=>⟨g,rfl,hg1,hg2,hblk.set _⟩)
   have HQ2:=ae (show 0<sn->∃ g',sa=some ⟨g',0,none⟩/\W.heap.size<=g'/\g'<br/\Blk (wr.setCell ⟨g,k*2,none⟩ (.int .i64 777)) g' (sn*3) from fun h0=>by
    obtain ⟨g',e,h1,h2,h3⟩:=HQ.out h0
    exact ⟨g',e,h1,h2,h3.set _⟩)
   clear hblk;go_wp2_with fail
   go_roundg (g1-1)
   case measure=>have:=HK.out;omega
   case rel=>exact ⟨k+1,ae (by have:=HK.out;omega),by go_num,HX2,HR2,HP2,HQ2⟩
  ·have hkn:pn=k:=by have:=HK.out;omega
   subst hkn;go_wp2_with fail;clear q1
   go_loopg [6] sn (fun gk ii wr=>∃ (k:Nat),Hid (gk+k=sn)/\ii=.int .i64 (k:Int)/\Hid (Ext W wr)/\Hid (wr.heap[br]?=some (.cells #[.bool ro,.slice pa pn pc,.slice sa sn sc,.int .i64 (rk:Int)] 73 (0,0)))/\Hid (0<sn->∃ g,sa=some ⟨g,0,none⟩/\W.heap.size<=g/\g<br/\Blk wr g (sn*3)))
   case atStart=>exact ⟨0,ae (by omega),rfl,HX,HR,HQ⟩
   case round =>
    clear HX HR HP HQ;obtain ⟨g2,h_g2⟩:∃ x,x=gk:=⟨_,rfl⟩;subst h_g2;obtain ⟨wr2,h_wr2⟩:∃ x,x=wr:=⟨_,rfl⟩;subst h_wr2;obtain ⟨k2,HK2,rfl,HX,HR,HQ⟩:=hrel;obtain ⟨q0,q1,q2,q3,qf⟩:=nbox HR.out;clear q0 q1 q3 qf;by_cases hlt2:k2<sn
    ·obtain ⟨g,rfl,hg1,hg2,hblk⟩:=HQ.out (by omega);obtain ⟨u,hu⟩:=hblk.cell (k:=k2*3) (by omega);have hf:=hblk.free (k2*3);have hki:(k2:Int)<(sn:Int):=by omega
     have hk0:(0:Int)<=(k2:Int):=by omega
     have HX2:=ae (HX.out.store (k2*3) hg1 (.int .i64 777));have HR2:=ae (show (wr2.setCell ⟨g,k2*3,none⟩ (.int .i64 777)).heap[br]?=some (.cells #[.bool ro,.slice pa pn pc,.slice (some ⟨g,0,none⟩) sn sc,.int .i64 (rk:Int)] 73 (0,0)) from (heap_setCell_other _ _ _ _ (by show br ≠ g;omega)).trans HR.out);have HQ2:=ae (show 0<sn->∃ g',some (⟨g,0,none⟩:Addr)=some ⟨g',0,none⟩/\W.heap.size<=g'/\g'<br/\Blk (wr2.setCell ⟨g,k2*3,none⟩ (.int .i64 777)) g' (sn*3) from fun _=>⟨g,rfl,hg1,hg2,hblk.set _⟩);clear hblk;go_wp2_with fail
     go_roundg (g2-1)
     case measure=>have:=HK2.out;omega
     case rel=>exact ⟨k2+1,ae (by have:=HK2.out;omega),by go_num,HX2,HR2,HQ2⟩
    ·have hkn2:sn=k2:=by have:=HK2.out;omega
     subst hkn2;have g0:=HX.out.cellSome HG0.out;have g1':=HX.out.cellSome HG1.out;have HXd:=ae (HX.out.trans (Ext.drew wr2));have HCE:=ae (fun (w':World) (hx:Ext W w')=>(⟨hx.cellSome HG0.out,hx.cellSome HG1.out⟩:w'.cell? ⟨bg,0,none⟩=some (.int .i64 y)/\w'.cell? ⟨bg,1,none⟩=some (.slice b m c)));clear HR HQ;go_upto_region 13 with fail;clear q2 g0 g1';refine wp_region_held_drew (S:=(fun w'=>w'.cell? ⟨bg,0,none⟩=some (.int .i64 y)/\w'.cell? ⟨bg,1,none⟩=some (.slice b m c))) (by kernel_rfl) ?_ (fun hHeld=>?_)
     ·exact HCE.out _ HXd.out
     obtain ⟨wd,hwd⟩:∃ y,y=wr2.drew:=⟨_,rfl⟩;rw [<-hwd] at hHeld HXd;rw [<-hwd];clear hwd;refine tk 0 ?_;refine tk 2 ?_;refine rd (i:=1) (h:=fun K hK=>?_);go_simp
     (go_at_call 52;refine (HI.out _ HXd.out).mono ?_;rintro e w3 ⟨⟨pa3,pn3,pc3,sa3,sn3,sc3,rfl,hpt3,hst3⟩,hx3⟩;have HX3:=ae (HXd.out.trans hx3);have HP3:=ae hpt3.rats;have HS3:=ae hst3.fixs;clear hpt3 hst3 hx3)
     go_wp2_with fail;refine hK.out _ _ ?_ (fun hHeld=>?_)
     ·exact HCE.out _ HX3.out
     clear hK K
     try simp only [Act.put,sA,sB,sC]
     refine rd (i:=3) (h:=fun K hK=>?_);go_simp
     (go_at_call 48;refine (HS.out _ HX3.out).mono ?_;rintro e w4 ⟨⟨pa4,pn4,pc4,sa4,sn4,sc4,rfl,hpt4,hst4⟩,hx4⟩;have HX4:=ae (HX3.out.trans hx4);have HP4:=ae hpt4.rats;have HS4:=ae hst4.fixs;have HE4:=ae (jp (o:=ro) (o':=ro) (x:=(rk:Int)) (x':=(rk:Int)) (HP3.out.ext hx4) (HS3.out.ext hx4) HP4.out HS4.out);rw [oR] at HE4;clear hpt4 hst4 hx4)
     go_wp2_with fail;refine hK.out _ _ ?_ (fun hHeld=>?_)
     ·exact HCE.out _ HX4.out
     clear hK K
     try simp only [Act.put,sA,sB,sC]
     refine rd (i:=4) (h:=fun K hK=>?_);go_simp
     (go_at_call 53;refine HE4.out.mono ?_;rintro e w5 ⟨rfl,hx5⟩;have HX5:=ae (HX4.out.trans hx5);clear hx5)
     go_wp2_with fail;refine hK.out _ _ ?_ (fun hHeld=>?_)
     ·exact HCE.out _ HX5.out
     clear hK K
     try simp only [Act.put,sA,sB,sC]
     refine tk 5 ?_;refine wpAnyH_done (by kernel_rfl) ?_ _;have XE:=ae (XA.out.trans HX5.out);clear hHeld HX HXd HX3 HX4 HX5 HE4 HP3 HS3 HP4 HS4 HI HS HCE HG0 HG1 HV XA XW X2 HRB HPB HSB;clear hbd1 hbd2 hpn hsn;go_wp2_with fail;refine (iv (H.out.ext XE.out) hb).mono ?_;rintro e w6 ⟨⟨ra,tm,trc,ba,tmb,tbc,x,row,col,rfl,hp⟩,hx⟩;obtain ⟨hm1,hm3,hmb⟩:=hp.d.bd;obtain ⟨t,n1,hT,hcol,hxn,hn7,hsh,hbd,hln⟩:=hp.d.own;have hrow:=hp.row;have hcl:=hp.col;subst hxn;obtain ⟨W6,hW6⟩:∃ E,E=w6.alloc (.cells #[.slice ra tm trc,.slice ba tmb tbc,.int .i64 (n1:Int)] 83):=⟨_,rfl⟩;obtain ⟨bt,hbt⟩:∃ g,g=w6.heap.size:=⟨_,rfl⟩;have hx6:Ext w6 W6:=by rw [hW6];exact Ext.alloc _ _
     have X6:=ae ((XE.out.trans hx).trans hx6);have HTB:=ae (show W6.heap[bt]?=some (.cells #[.slice ra tm trc,.slice ba tmb tbc,.int .i64 (n1:Int)] 83 (0,0)) by rw [hW6,hbt];exact aj _ _ _ rfl);have hTC:=hT.here.ext hx6;obtain ⟨ps1,ps2,ps3,ps4⟩:=pU hcol hTC.rows.hlen hm1 hm3 hn7 hTC.basis.hlen hsh hln row col;have HPI:=ae (fun (w':World) (hx:Ext W6 w')=>gK (hTC.ext hx) (by omega) (by omega) (fun i hi=>by have:=hln i hi;omega) hbd row col);have HPS:=ae (fun (w':World) (hx:Ext W6 w')=>oQ (row:=row) (col:=col) (hTC.ext hx) hcol hn7 hm1 hm3 hmb hsh hln);obtain ⟨tp,htp⟩:∃ x,x=bE t row col:=⟨_,rfl⟩;obtain ⟨okp,hokp⟩:∃ x,x=(aQ t row col).isSome:=⟨_,rfl⟩;rw [<-htp] at ps1 ps2 ps3 ps4;simp only [hcol,<-htp,<-hokp] at HPI;simp only [<-htp] at HPS;have HC:=ae ps1;have HL:=ae ps2;have HBL:=ae ps3;have HRL:=ae ps4;clear htp hokp hp hT hcol hsh hbd hln hx hx6 hTC ps1 ps2 ps3 ps4 XE;go_upto_region 16 with fail;rw [<-hW6,<-hbt];clear hW6 hbt;have p0:=al HTB.out;have p1:=am HTB.out;have p2:=ap HTB.out;go_wp2_with fail;refine (HPI.out _ (Ext.refl _)).mono ?_;rintro e w7 ⟨hret,hx7⟩;obtain ⟨ra7,m7,rc7,ba7,mb7,bc7,vs7,he,ho7,hl7,hb7⟩:=hret.parts;rw [HC.out] at he;subst he;obtain rfl:tm=m7:=by have:=HL.out;omega
     obtain ⟨G,rfl,hG1,hG2,hRw⟩:=Rw.of ho7 (by omega) HRL.out;obtain ⟨W7,hW7⟩:∃ E,E=w7.alloc (.cells #[.slice (some ⟨G,0,none⟩) tm rc7,.slice ba7 mb7 bc7,.int .i64 (n1:Int)] 83):=⟨_,rfl⟩;have X7:=ae (show Ext w7 W7 by rw [hW7];exact Ext.alloc _ _);have XW7:=ae (hx7.trans X7.out);have HOB:=ae (show W7.heap[w7.heap.size]?=some (.cells #[.slice (some ⟨G,0,none⟩) tm rc7,.slice ba7 mb7 bc7,.int .i64 (n1:Int)] 83 (0,0)) by rw [hW7];exact aj _ _ _ rfl);have HRW:=ae (hRw.ext X7.out);have hs7:=hx7.size;clear hret ho7 hl7 hb7 hRw hx7 p0 p1 p2;go_upto_region 17 with fail;rw [<-hW7];clear hW7;generalize w7.heap.size=bo at HOB HRW hs7 hG2 ⊢;go_wp2_with fail
     go_loopg [12] tm (fun gk ii wr=>∃ (k:Nat),Hid (gk+k=tm)/\ii=.int .i64 (k:Int)/\Hid (Ext W6 wr)/\Hid (wr.heap[bo]?=some (.cells #[.slice (some ⟨G,0,none⟩) tm rc7,.slice ba7 mb7 bc7,.int .i64 (n1:Int)] 83 (0,0)))/\Hid (Rw wr W6.heap.size G bo tm vs7))
     case atStart=>exact ⟨0,ae (by omega),rfl,XW7,HOB,HRW⟩
     case round =>
      clear XW7 HOB HRW;obtain ⟨g3,h_g3⟩:∃ x,x=gk:=⟨_,rfl⟩;subst h_g3;obtain ⟨wr3,h_wr3⟩:∃ x,x=wr:=⟨_,rfl⟩;subst h_wr3;obtain ⟨k,HK3,rfl,HX,HOB,HRW⟩:=hrel;have c0:=al HOB.out;by_cases hlt3:k<tm
      ·obtain ⟨ak,nk,ck,hvk,hnk,_⟩:=HRW.out.row k hlt3;have HVK:=ae hvk;have hki:(k:Int)<(tm:Int):=by omega
       have hk0:(0:Int)<=(k:Int):=by omega
       clear hvk;go_wp2_with fail;clear c0
       go_loopg [13] nk (fun gk ii wr=>∃ (j:Nat),Hid (gk+j=nk)/\ii=.int .i64 (j:Int)/\Hid (Ext W6 wr)/\Hid (wr.heap[bo]?=some (.cells #[.slice (some ⟨G,0,none⟩) tm rc7,.slice ba7 mb7 bc7,.int .i64 (n1:Int)] 83 (0,0)))/\Hid (Rw wr W6.heap.size G bo tm vs7))
       case atStart=>exact ⟨0,ae (by omega),rfl,HX,HOB,HRW⟩
       case round =>
        clear HX HOB HRW;obtain ⟨g4,h_g4⟩:∃ x,x=gk:=⟨_,rfl⟩;subst h_g4;obtain ⟨wr4,h_wr4⟩:∃ x,x=wr:=⟨_,rfl⟩;subst h_wr4;obtain ⟨j,HJ,rfl,HX,HOB,HRW⟩:=hrel;have c0:=al HOB.out;have ck0:=HRW.out.cell k hlt3;rw [HVK.out] at ck0;by_cases hlt4:j<nk
        ·obtain ⟨a',n',c',hv',_,hr'⟩:=HRW.out.row k hlt3;rw [HVK.out] at hv';simp only [Value.slice.injEq] at hv';obtain ⟨rfl,rfl,rfl⟩:=hv';obtain ⟨g,rfl,hg1,hgG,hgB,hblk⟩:=hr' j hlt4;obtain ⟨u,hu⟩:=hblk.cell (k:=j*2) (by omega);have hf:=hblk.free (j*2);have hji:(j:Int)<(nk:Int):=by omega
         have hj0:(0:Int)<=(j:Int):=by omega
         have HX2:=ae (HX.out.store (j*2) hg1 (.int .i64 777));have HOB2:=ae (show (wr4.setCell ⟨g,j*2,none⟩ (.int .i64 777)).heap[bo]?=some (.cells #[.slice (some ⟨G,0,none⟩) tm rc7,.slice ba7 mb7 bc7,.int .i64 (n1:Int)] 83 (0,0)) from (heap_setCell_other _ _ _ _ (by show bo ≠ g;omega)).trans HOB.out);have HRW2:=ae (HRW.out.set hgG (j*2) (.int .i64 777));clear hblk hr';go_wp2_with fail
         go_roundg (g4-1)
         case measure=>have:=HJ.out;omega
         case rel=>exact ⟨j+1,ae (by have:=HJ.out;omega),by go_num,HX2,HOB2,HRW2⟩
        ·have hjn:nk=j:=by have:=HJ.out;omega
         subst hjn;go_wp2_with fail
         go_roundg (g3-1)
         case measure=>have:=HK3.out;omega
         case rel=>exact ⟨k+1,ae (by have:=HK3.out;omega),by go_num,HX,HOB,HRW⟩
      ·have hkm:tm=k:=by have:=HK3.out;omega
       subst hkm;have p0:=al (HX.out.blk HTB.out);have p1:=am (HX.out.blk HTB.out);have p2:=ap (HX.out.blk HTB.out);go_wp2_with fail;refine (HPI.out _ HX.out).mono ?_;rintro e w8 ⟨hret,hx8⟩;obtain ⟨ra8,m8,rc8,ba8,mb8,bc8,vs8,he,ho8,hl8,hb8⟩:=hret.parts;rw [HC.out] at he;subst he;obtain rfl:tm=m8:=by have:=HL.out;omega
       obtain rfl:tmb=mb8:=by have:=HBL.out;omega
       obtain ⟨W8,hW8⟩:∃ E,E=w8.alloc (.cells #[.slice ra8 tm rc8,.slice ba8 tmb bc8,.int .i64 (n1:Int)] 83):=⟨_,rfl⟩;have X8:=ae (show Ext w8 W8 by rw [hW8];exact Ext.alloc _ _);have HX8:=ae ((HX.out.trans hx8).trans X8.out);have HT8:=ae (ho8.tbc.ext X8.out);have H8B:=ae (show W8.heap[w8.heap.size]?=some (.cells #[.slice ra8 tm rc8,.slice ba8 tmb bc8,.int .i64 (n1:Int)] 83 (0,0)) by rw [hW8];exact aj _ _ _ rfl);clear hret hx8 ho8 hl8 hb8 p0 p1 p2 c0 HOB HRW;go_upto_region 25 with fail;rw [<-hW8];clear hW8;generalize w8.heap.size=b8 at H8B ⊢;have p0:=al (HX8.out.blk HTB.out);have p1:=am (HX8.out.blk HTB.out);have p2:=ap (HX8.out.blk HTB.out);go_wp2_with fail;refine (HPS.out _ HX8.out).mono ?_;rintro e w9 ⟨⟨ok9,hret⟩,hx9⟩;obtain ⟨ra9,m9,rc9,ba9,mb9,bc9,vs9,he,ho9,hl9,hb9⟩:=hret.parts;rw [HC.out] at he;subst he;obtain rfl:tm=m9:=by have:=HL.out;omega
       obtain rfl:tmb=mb9:=by have:=HBL.out;omega
       obtain ⟨W9,hW9⟩:∃ E,E=w9.alloc (.cells #[.slice ra9 tm rc9,.slice ba9 tmb bc9,.int .i64 (n1:Int)] 83):=⟨_,rfl⟩;have X9:=ae (show Ext w9 W9 by rw [hW9];exact Ext.alloc _ _);have HX9:=ae (hx9.trans X9.out);have HT9:=ae (ho9.tbc.ext X9.out);have H9B:=ae (show W9.heap[w9.heap.size]?=some (.cells #[.slice ra9 tm rc9,.slice ba9 tmb bc9,.int .i64 (n1:Int)] 83 (0,0)) by rw [hW9];exact aj _ _ _ rfl);clear hret hx9 ho9 hl9 hb9 p0 p1 p2;go_upto_region 26 with fail;rw [<-hW9];clear hW9;generalize w9.heap.size=b9 at H9B ⊢;have p0:=al (HX9.out.blk H8B.out);have p1:=am (HX9.out.blk H8B.out);have p2:=ap (HX9.out.blk H8B.out);have q0:=al H9B.out;have q1:=am H9B.out;have q2:=ap H9B.out;go_wp2_with fail;refine (kC (HT8.out.ext HX9.out) HT9.out).mono ?_;rintro e w10 ⟨rfl,hx10⟩;have XF:=ae (((X6.out.trans HX8.out).trans HX9.out).trans hx10);clear hx10;go_wp2_with fail;go_ret;exact ⟨rfl,XF.out⟩
end Go.Proofs.YthjjfkeacobikaaGreat
