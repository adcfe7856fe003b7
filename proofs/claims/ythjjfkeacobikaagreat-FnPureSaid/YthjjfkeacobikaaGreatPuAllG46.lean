import Derived.Test.YthjjfkeacobikaaGreatPuAllG17
set_option linter.unusedVariables false
set_option linter.unusedSimpArgs false
namespace Go.Proofs.YthjjfkeacobikaaGreat
set_option maxRecDepth 100000
open Go.RowKit
section
variable {w:World} {ra:Option Addr} {rc:Nat} {ba:Option Addr} {bc:Nat} {t:Tb} {n m:Nat} {T0:Nat->Nat->Rat}
set_option maxHeartbeats 16000000 in
theorem ql {mb:Nat} (h:TbC w ra m rc ba mb bc t) (hm:m<=1000) (hmb:mb<=2000) (hcols:t.cols=n) (hrl:∀ i,i<m->(t.row i).length<=1048576) :
 Calls Tryz.prog 143 #[tbW ra m rc ba mb bc (n:Int)] w fun e w'=>(∃ va vb vs,e=.returned (.agg #[va,vb,.int .i64 (n:Int)])/\OwnT w' w.heap.size va vb vs t)/\Ext w w':=by
 have hx0:=(Ext.alloc w (bp ra m rc ba mb bc (n:Int))).trans (Ext.alloc _ (.cells #[.slice none 0 0,.slice none 0 0,.int .i64 0] 83));obtain ⟨W,hW⟩:∃ W,W=(w.alloc (bp ra m rc ba mb bc (n:Int))).alloc (.cells #[.slice none 0 0,.slice none 0 0,.int .i64 0] 83):=⟨_,rfl⟩;rw [<-hW] at hx0;have HX0:=ae hx0;have H:=ae (h.ext hx0);have hr1:=h.rows.hcap;have hr2:=h.rows.hmax;have HLR:=ae (show t.rows.length=m from h.rows.hlen);have HLB:=ae (show t.basis.length=mb from h.basis.hlen);have HCM:=ae hcols;have HRL:=ae hrl;have HTB:=ae (show W.heap[w.heap.size]?=some (.cells #[.slice ra m rc,.slice ba mb bc,.int .i64 (n:Int)] 83 (0,0)) by rw [hW,bz _ _ _ (by simp)];exact aj _ _ _ rfl);have HGB:=ae (show W.heap[w.heap.size+1]?=some (.cells #[.slice none 0 0,.slice none 0 0,.int .i64 0] 83 (0,0)) by rw [hW];exact aj _ _ _ (by simp));have HSW:=ae (show W.heap.size=w.heap.size+1+1 by rw [hW];simp);have p1:=am HTB.out;have p2:=ap HTB.out;clear h hx0 hrl hcols;go_enter Tryz.func143,Tryz.ntmps143
 go_upto_region 1 with fail;rw [<-hW];clear hW
 go_cut [3] (fun s wx=>∃ (g:Nat) (a3:Option Addr) (n3 c3:Nat),s=.pointer (some ⟨g,0,none⟩)/\Hid (TbO wx W.heap.size g (.slice none 0 0) (.slice a3 n3 c3) (n:Int) [] [] t.basis)/\Hid (Ext W wx))
 case first =>
  have hk2:Ext W W.drew:=Ext.drew W;have HKEEP:=ae (fun (w':World) (h:Ext W w')=>(⟨h.cellSome p1,h.cellSome p2,h⟩:(fun w'=>w'.cell? ⟨w.heap.size,1,none⟩=some (.slice ba mb bc)/\w'.cell? ⟨w.heap.size,2,none⟩=some (.int .i64 (n:Int))/\Ext W w') w'));refine wp_region_held_drew (S:=(fun w'=>w'.cell? ⟨w.heap.size,1,none⟩=some (.slice ba mb bc)/\w'.cell? ⟨w.heap.size,2,none⟩=some (.int .i64 (n:Int))/\Ext W w')) (by kernel_rfl) ?_ (fun hHeld=>?_)
  ·exact HKEEP.out _ hk2
  refine tk 1 ?_;refine tk 2 ?_;refine tk 4 ?_;refine tk 5 ?_;refine wpAnyH_ready (rs:=[0,7]) (by kernel_rfl) (by simp) ?_;refine AllReadyH.cons (o:=?_) ?_ (fun K hK=>?_) ?_;rotate_left
  ·simp only [gA,gB,gC];rfl
  ·
   have hk2:Ext W (W.alloc (.cells #[] 3)).drew:=(Ext.alloc _ _).trans (Ext.drew _);have HOI:=ae ((OwnI.madeS W W.heap.size W.heap.size rfl (Nat.le_refl _)).ext (Ext.drew _));go_simp;refine hK.out _ _ ?_ (fun hHeld=>?_)
   ·exact HKEEP.out _ hk2
   clear hK K
   try simp only [Act.put,sA,sB,sC]
   obtain ⟨gi,hgi⟩:∃ g,g=W.heap.size:=⟨_,rfl⟩;obtain ⟨W1,hW1⟩:∃ x,x=(W.alloc (.cells #[] 3)).drew:=⟨_,rfl⟩;rw [<-hW1] at hk2 HOI;rw [show (Value.slice (some ⟨W.heap.size,0,none⟩) 0 0)=Value.slice (some ⟨gi,0,none⟩) 0 0 by rw [hgi]] at HOI;rw [<-hW1,<-hgi];clear hW1 hgi hHeld;refine wpAnyH_ready (rs:=[3,7]) (by kernel_rfl) (by simp) ?_;refine AllReadyH.cons (o:=?_) ?_ (fun K hK=>?_) ?_;rotate_left
   ·simp only [gA,gB,gC];rfl
   ·
    refine bH _ (by rfl) ?_;refine bG _ _ (by rfl) W.heap.size (.slice (some ⟨gi,0,none⟩) 0 0) [] (by rfl) HOI.out ba mb bc t.basis (by rfl) (H.out.ext hk2).basis (by simp;omega) hk2.size ?_;intro v3 w3 ho3 hg3 hn3;obtain ⟨a3,n3,c3,rfl,HN3⟩:=ho3.var;have HO3:=ae (show OwnI w3 W.heap.size (.slice a3 n3 c3) t.basis by simpa using ho3);have hx3:=Ext.grown hk2 hg3 (fun j hj=>(HOI.out.lt j hj).1);go_wp2_with fail;refine hK.out _ _ ?_ (fun hHeld=>?_)
    ·exact HKEEP.out _ hx3
    clear hK K
    try simp only [Act.put,sA,sB,sC]
    have hk2:=hx3;refine tk 6 ?_;have hgt':=hk2.size;have hk2:=hk2.trans (Ext.alloc w3 (.cells #[.slice none 0 0,.slice none 0 0,.int .i64 0] 83));have HBX:=ae (show (w3.alloc (.cells #[.slice none 0 0,.slice none 0 0,.int .i64 0] 83)).heap[w3.heap.size]?=some (.cells #[.slice none 0 0,.slice none 0 0,.int .i64 0] 83 (0,0)) from heap_alloc_new w3 _);refine rd (i:=7) (h:=fun K hK=>?_);go_simp;refine hK.out _ _ ?_ (fun hHeld=>?_)
    ·exact HKEEP.out _ hk2
    clear hK K
    try simp only [Act.put,sA,sB,sC]
    obtain ⟨gt,hgt0⟩:∃ g,g=w3.heap.size:=⟨_,rfl⟩;obtain ⟨W9,hW9⟩:∃ x,x=w3.alloc (.cells #[.slice none 0 0,.slice none 0 0,.int .i64 0] 83):=⟨_,rfl⟩;have HK9:=ae (show Ext w3 W9 by rw [hW9];exact Ext.alloc _ _);rw [<-hW9] at hk2;rw [<-hW9,<-hgt0] at HBX;rw [<-hW9,<-hgt0];have hgt:W.heap.size<=gt:=by rw [hgt0];exact hgt'
    clear hW9 hgt0 hHeld hgt';have HO3:=ae (HO3.out.ext HK9.out);have b0_:=al HBX.out;have b1_:=am HBX.out;have b2_:=ap HBX.out;have bf_:=bK HBX.out;refine rd (i:=8) (h:=fun K hK=>?_);go_simp;refine hK.out _ _ ?_ (fun hHeld=>?_)
    ·exact HKEEP.out _ (Ext.set3 hk2 hgt _ _ _)
    clear hK K
    try simp only [Act.put,sA,sB,sC]
    refine wpAnyH_done (by kernel_rfl) ?_ _;go_wp2_with fail;go_meet;exact ⟨gt,a3,n3,c3,rfl,ae (TbO.put3 HBX.out HO3.out (Nat.le_refl _) hgt),ae (Ext.set3 hk2 hgt _ _ _)⟩
   refine AllReadyH.cons (o:=?_) ?_ (fun K hK=>?_) AllReadyH.nil;rotate_left
   ·simp only [gA,gB,gC];rfl
   have hgt':=hk2.size;have hk2:=hk2.trans (Ext.alloc W1 (.cells #[.slice none 0 0,.slice none 0 0,.int .i64 0] 83));have HBX:=ae (show (W1.alloc (.cells #[.slice none 0 0,.slice none 0 0,.int .i64 0] 83)).heap[W1.heap.size]?=some (.cells #[.slice none 0 0,.slice none 0 0,.int .i64 0] 83 (0,0)) from heap_alloc_new W1 _);go_simp;refine hK.out _ _ ?_ (fun hHeld=>?_)
   ·exact HKEEP.out _ hk2
   clear hK K
   try simp only [Act.put,sA,sB,sC]
   obtain ⟨gt,hgt0⟩:∃ g,g=W1.heap.size:=⟨_,rfl⟩;obtain ⟨W9,hW9⟩:∃ x,x=W1.alloc (.cells #[.slice none 0 0,.slice none 0 0,.int .i64 0] 83):=⟨_,rfl⟩;have HK9:=ae (show Ext W1 W9 by rw [hW9];exact Ext.alloc _ _);rw [<-hW9] at hk2;rw [<-hW9,<-hgt0] at HBX;rw [<-hW9,<-hgt0];have hgt:W.heap.size<=gt:=by rw [hgt0];exact hgt'
   clear hW9 hgt0 hHeld hgt';have HOI:=ae (HOI.out.ext HK9.out);refine rd (i:=3) (h:=fun K hK=>?_);refine bH _ (by rfl) ?_;refine bG _ _ (by rfl) W.heap.size (.slice (some ⟨gi,0,none⟩) 0 0) [] (by rfl) HOI.out ba mb bc t.basis (by rfl) (H.out.ext hk2).basis (by simp;omega) hk2.size ?_;intro v3 w3 ho3 hg3 hn3;obtain ⟨a3,n3,c3,rfl,HN3⟩:=ho3.var;have HO3:=ae (show OwnI w3 W.heap.size (.slice a3 n3 c3) t.basis by simpa using ho3);have hx3:=Ext.grown hk2 hg3 (fun j hj=>(HOI.out.lt j hj).1);have HBX:=ae ((hg3.block gt (lt_of_block HBX.out) (an HOI.out HBX.out (by decide))).trans HBX.out);go_wp2_with fail;refine hK.out _ _ ?_ (fun hHeld=>?_)
   ·exact HKEEP.out _ hx3
   clear hK K
   try simp only [Act.put,sA,sB,sC]
   have hk2:=hx3;refine tk 6 ?_;have b0_:=al HBX.out;have b1_:=am HBX.out;have b2_:=ap HBX.out;have bf_:=bK HBX.out;refine rd (i:=8) (h:=fun K hK=>?_);go_simp;refine hK.out _ _ ?_ (fun hHeld=>?_)
   ·exact HKEEP.out _ (Ext.set3 hk2 hgt _ _ _)
   clear hK K
   try simp only [Act.put,sA,sB,sC]
   refine wpAnyH_done (by kernel_rfl) ?_ _;go_wp2_with fail;go_meet;exact ⟨gt,a3,n3,c3,rfl,ae (TbO.put3 HBX.out HO3.out (Nat.le_refl _) hgt),ae (Ext.set3 hk2 hgt _ _ _)⟩
  refine AllReadyH.cons (o:=?_) ?_ (fun K hK=>?_) AllReadyH.nil;rotate_left
  ·simp only [gA,gB,gC];rfl
  have hk2:Ext W (W.alloc (.cells #[.slice none 0 0,.slice none 0 0,.int .i64 0] 83)).drew:=(Ext.alloc _ _).trans (Ext.drew _);have HBX:=ae (show (W.alloc (.cells #[.slice none 0 0,.slice none 0 0,.int .i64 0] 83)).drew.heap[W.heap.size]?=some (.cells #[.slice none 0 0,.slice none 0 0,.int .i64 0] 83 (0,0)) from heap_alloc_new W _);go_simp;refine hK.out _ _ ?_ (fun hHeld=>?_)
  ·exact HKEEP.out _ hk2
  clear hK K
  try simp only [Act.put,sA,sB,sC]
  obtain ⟨gt,hgt0⟩:∃ g,g=W.heap.size:=⟨_,rfl⟩;obtain ⟨W1,hW1⟩:∃ x,x=(W.alloc (.cells #[.slice none 0 0,.slice none 0 0,.int .i64 0] 83)).drew:=⟨_,rfl⟩;rw [<-hW1] at hk2;rw [<-hW1,<-hgt0] at HBX;rw [<-hW1,<-hgt0];have hgt:W.heap.size<=gt:=Nat.le_of_eq hgt0.symm;clear hW1 hgt0 hHeld;have HOI:=ae (OwnI.madeS W1 W.heap.size W1.heap.size rfl hk2.size);have hk2:=hk2.trans (Ext.alloc W1 (.cells #[] 3));refine rd (i:=0) (h:=fun K hK=>?_);go_simp;refine hK.out _ _ ?_ (fun hHeld=>?_)
  ·exact HKEEP.out _ hk2
  clear hK K
  try simp only [Act.put,sA,sB,sC]
  obtain ⟨gi,hgi⟩:∃ g,g=W1.heap.size:=⟨_,rfl⟩;obtain ⟨W2,hW2⟩:∃ x,x=W1.alloc (.cells #[] 3):=⟨_,rfl⟩;rw [<-hW2] at hk2 HOI;rw [show (Value.slice (some ⟨W1.heap.size,0,none⟩) 0 0)=Value.slice (some ⟨gi,0,none⟩) 0 0 by rw [hgi]] at HOI;have HBX:=ae (show W2.heap[gt]?=some (.cells #[.slice none 0 0,.slice none 0 0,.int .i64 0] 83 (0,0)) by rw [hW2];exact (Ext.alloc W1 (.cells #[] 3)).blk HBX.out);rw [<-hW2,<-hgi];clear hW2 hgi hHeld;refine rd (i:=3) (h:=fun K hK=>?_);refine bH _ (by rfl) ?_;refine bG _ _ (by rfl) W.heap.size (.slice (some ⟨gi,0,none⟩) 0 0) [] (by rfl) HOI.out ba mb bc t.basis (by rfl) (H.out.ext hk2).basis (by simp;omega) hk2.size ?_;intro v3 w3 ho3 hg3 hn3;obtain ⟨a3,n3,c3,rfl,HN3⟩:=ho3.var;have HO3:=ae (show OwnI w3 W.heap.size (.slice a3 n3 c3) t.basis by simpa using ho3);have hx3:=Ext.grown hk2 hg3 (fun j hj=>(HOI.out.lt j hj).1);have HBX:=ae ((hg3.block gt (lt_of_block HBX.out) (an HOI.out HBX.out (by decide))).trans HBX.out);go_wp2_with fail;refine hK.out _ _ ?_ (fun hHeld=>?_)
  ·exact HKEEP.out _ hx3
  clear hK K
  try simp only [Act.put,sA,sB,sC]
  have hk2:=hx3;refine tk 6 ?_;have b0_:=al HBX.out;have b1_:=am HBX.out;have b2_:=ap HBX.out;have bf_:=bK HBX.out;refine rd (i:=8) (h:=fun K hK=>?_);go_simp;refine hK.out _ _ ?_ (fun hHeld=>?_)
  ·exact HKEEP.out _ (Ext.set3 hk2 hgt _ _ _)
  clear hK K
  try simp only [Act.put,sA,sB,sC]
  refine wpAnyH_done (by kernel_rfl) ?_ _;go_wp2_with fail;go_meet;exact ⟨gt,a3,n3,c3,rfl,ae (TbO.put3 HBX.out HO3.out (Nat.le_refl _) hgt),ae (Ext.set3 hk2 hgt _ _ _)⟩
 obtain ⟨g,a3,n3,c3,rfl,HT,HX1⟩:=hcut;clear p1 p2;go_wp2_with fail
 go_loopg [4] m (fun gk ii wr=>∃ (k:Nat) (va:Value) (vs:List Value),Hid (gk+k=m)/\ii=.int .i64 (k:Int)/\Hid (TbO wr W.heap.size g va (.slice a3 n3 c3) (n:Int) vs (t.rows.take k) t.basis)/\Hid (Ext W wr))
 case atStart=>exact ⟨0,_,_,ae (by omega),rfl,HT,HX1⟩
 case round =>
  obtain ⟨g1,h_g1⟩:∃ x,x=gk:=⟨_,rfl⟩;subst h_g1;obtain ⟨wr1,h_wr1⟩:∃ x,x=wr:=⟨_,rfl⟩;subst h_wr1;obtain ⟨k,va,vs,HK,rfl,T,HX⟩:=hrel;have p0:=al (HX.out.blk HTB.out);by_cases hlt:k<m
  ·obtain ⟨zb,zoff,za,zn,zc,hza,hz0,hrow⟩:=(H.out.ext HX.out).rows.at hlt;subst hza;have hzn:zn<=1048576:=by rw [<-hrow.hlen];exact HRL.out k hlt
   have HROW:=ae hrow;have t0:=al T.out.box;have hgl:=T.out.lt;have hsx:=HX.out.size;have HVL:=ae (show vs.length=k by rw [T.out.rows.len,List.length_take];have h2:=HLR.out;omega);have hk0:(0:Int)<=(k:Int):=by omega
   have hk1:(k:Int)<(m:Int):=by omega
   have P0:=ae p0;obtain ⟨zb',zoff',za',zn',zc',hza',hzW,hroww⟩:=H.out.rows.at hlt;simp only [Option.some.injEq,Addr.mk.injEq,and_true] at hza';obtain ⟨rfl,rfl⟩:=hza';have hzz:=hz0.symm.trans (HX.out.cellSome hzW);simp only [Option.some.injEq,Value.slice.injEq] at hzz;obtain ⟨rfl,rfl,rfl⟩:=hzz;have Hzz:=ae (fun (w':World) (hx:Ext W w')=>hx.cellSome hzW);clear hroww hzW;clear hrow;go_upto_region 5 with fail;have hk3:Ext wr1 wr1.drew:=Ext.drew wr1;have HKEEP:=ae (fun (w':World) (h:Ext wr1 w')=>(⟨h.cellSome t0,h.cellSome p0,h.cellSome hz0,HX.out.trans h⟩:w'.cell? ⟨g,0,none⟩=some va/\w'.cell? ⟨w.heap.size,0,none⟩=some (.slice (some ⟨zb,zoff,none⟩) m rc)/\w'.cell? ⟨zb,zoff+k,none⟩=some (.slice za zn zc)/\Ext W w'));refine ci (M:=[11]) (S:=fun w'=>w'.cell? ⟨g,0,none⟩=some va/\w'.cell? ⟨w.heap.size,0,none⟩=some (.slice (some ⟨zb,zoff,none⟩) m rc)/\w'.cell? ⟨zb,zoff+k,none⟩=some (.slice za zn zc)/\Ext W w') (by kernel_rfl) ?_;have hHeld:=HKEEP.out _ hk3;refine lp 0 ?_;refine ll 1 ?_;refine lp 2 ?_;refine ll 3 ?_;refine lp 4 ?_;refine lp 5 ?_;refine ll 6 ?_;refine aG (i:=7) (oi:=?_) ?_ ?_ ?_ (fun K hK=>?_);rotate_left
   ·simp only [gA,gB,gC];rfl
   ·kernel_rfl
   ·kernel_rfl
   go_simp;go_at_call 163;refine (hO (HROW.out.ext hk3) (by omega)).mono ?_;rintro e w5 ⟨⟨v5,rfl,ho5⟩,hx5⟩;have HS5:=ae hk3.size;have hk3:Ext wr1 w5:=hk3.trans hx5;obtain ⟨a5,n5,c5,rfl,HN5⟩:=ho5.var;have HO5:=ae (show OwnR w5 wr1.heap.size (.slice a5 n5 c5) _ from ho5.mono HS5.out);have hs5:=hk3.size;clear ho5;go_wp2_with fail;refine hK.out _ _ (fun _=>HKEEP.out _ hk3) ?_;have hHeld:=HKEEP.out _ hk3;clear hK K
   try simp only [Act.put,sA,sB,sC]
   refine aG (i:=8) (oi:=?_) ?_ ?_ ?_ (fun K hK=>?_);rotate_left
   ·simp only [gA,gB,gC];rfl
   ·kernel_rfl
   ·kernel_rfl
   go_simp;refine hK.out _ _ (fun _=>HKEEP.out _ (hk3.trans (Ext.alloc _ _))) ?_;clear hK K
   try simp only [Act.put,sA,sB,sC]
   refine aG (i:=9) (oi:=?_) ?_ ?_ ?_ (fun K hK=>?_);rotate_left
   ·simp only [gA,gB,gC];rfl
   ·kernel_rfl
   ·kernel_rfl
   refine dB _ _ (by rfl) W.heap.size va vs (by rfl) ((T.out.a.ext hk3).ext (Ext.alloc _ _)) _ _ 1 (by rfl) (by simp;rfl) rfl (by rw [HVL.out];omega) (by simp;omega) ?_;intro v7 w7 ho hg hnear;obtain ⟨a7,n7,q7,rfl,HN7⟩:=ho.var;have HO7:=ae ho;have HG7:=ae hg;have hbx:=T.out.boxA (hk3.trans (Ext.alloc _ _)) hg;have c07:=al hbx;have cf7:=bK hbx;have hX7:Ext W w7:=aq ((HX.out.trans hk3).trans (Ext.alloc _ _)) hg (fun j hj=>(T.out.a.lt j hj).1);have hZ7:=ae (show w7.cell? ⟨zb,zoff+k,none⟩=some (.slice za zn zc) from Hzz.out _ hX7);clear ho hg hnear hbx;refine hK.out _ _ (fun _=>And.intro c07 (And.intro (Ext.cellSome hX7 (al HTB.out)) (And.intro hZ7.out hX7))) ?_;have hHeld:=And.intro c07 (And.intro (Ext.cellSome hX7 (al HTB.out)) (And.intro hZ7.out hX7));clear hK K
   try simp only [Act.put,sA,sB,sC]
   refine lp 10 ?_;refine cq (i:=11) (oi:=?_) (w':=?_) ?_ ?_ ?_ ?_ ?_ ?_ ?_;rotate_left 2
   ·simp only [gA,gB,gC];rfl
   ·kernel_rfl
   ·kernel_rfl
   ·exact of_decide_eq_true (by kernel_rfl)
   ·rfl
   ·go_simp;(try with_reducible rfl)
   try simp only [Act.put,sA,sB,sC]
   refine cv (by kernel_rfl) ?_ _;have HTN:=ae (T.out.pushA (hk3.trans (Ext.alloc _ _)) (HO5.out.ext (Ext.alloc _ _)) hsx HG7.out HO7.out);have HXN:=ae (hX7.setCell (p:=⟨g,0,none⟩) T.out.hg (.slice a7 n7 q7));go_wp2_with fail
   go_roundg (g1-1)
   case measure=>have:=HK.out;omega
   case rel=>exact ⟨k+1,_,_,ae (by have:=HK.out;omega),by go_num,ae (by have:=HTN.out;rw [<-dR (by have h2:=HLR.out;omega)] at this;exact this),HXN⟩
  ·have hkn:m=k:=by have:=HK.out;omega
   subst hkn;have HTT:=ae (show t.rows.take m=t.rows from List.take_of_length_le (Nat.le_of_eq HLR.out))
   have HTN:=ae (show OwnT wr1 W.heap.size va (.slice a3 n3 c3) vs t by
    have h1:=T.out.own
    rw [HTT.out,<-HCM.out] at h1;exact h1)
   have t0:=al T.out.box;have t1:=am T.out.box;have t2:=ap T.out.box;obtain ⟨a7,n7,c7,rfl,HN7⟩:=T.out.a.var;have q0:=HX.out.blk HGB.out;have r0:=al q0;have r1:=am q0;have r2:=ap q0;have rf:=bK q0;have hww:=HSW.out;have hsx:=HX.out.size;clear q0;go_wp2_with fail;refine bodyPost_ret (v:=.agg #[.slice a7 n7 c7,.slice a3 n3 c3,.int .i64 (n:Int)]) (by simp [results,Tryz.results143,go_sem,r0,r1,r2,rf]) rfl ⟨⟨_,_,vs,rfl,?_⟩,?_⟩
   ·exact (HTN.out.keepAll fun k hk=>aV _ _ _ _ _ _ (by omega)).mono (by omega)
   ·exact (HX0.out.trans HX.out).set3 (Nat.le_succ _) _ _ _
set_option maxHeartbeats 32000000 in
theorem mF (h:TbC w ra m rc ba m bc t) (hT:TInv n m T0 t) (hn:n<=1000) (hm:m<=1000) {r c:Nat} (hr:r<m) (hc:c<n+m) :
 Calls Tryz.prog 56 #[tbW ra m rc ba m bc (n:Int),.int .i64 (r:Int),.int .i64 (c:Int)] w fun e w'=>PivR w' w.heap.size e (bE t (r:Int) (c:Int)) (aQ t (r:Int) (c:Int)).isSome/\Ext w w':=by
 have hx0:=(Ext.alloc w (bp ra m rc ba m bc (n:Int))).trans (Ext.alloc _ (.cells #[.slice none 0 0,.slice none 0 0,.int .i64 0] 83));obtain ⟨W,hW⟩:∃ W,W=(w.alloc (bp ra m rc ba m bc (n:Int))).alloc (.cells #[.slice none 0 0,.slice none 0 0,.int .i64 0] 83):=⟨_,rfl⟩;rw [<-hW] at hx0;have HX0:=ae hx0;have H:=ae (h.ext hx0);have hr1:=h.rows.hcap;have hr2:=h.rows.hmax;have HT:=ae hT;have HLR:=ae (show t.rows.length=m from hT.len);have HCM:=ae hT.cols;have HTB:=ae (show W.heap[w.heap.size]?=some (.cells #[.slice ra m rc,.slice ba m bc,.int .i64 (n:Int)] 83 (0,0)) by rw [hW,bz _ _ _ (by simp)];exact aj _ _ _ rfl);have HGB:=ae (show W.heap[w.heap.size+1]?=some (.cells #[.slice none 0 0,.slice none 0 0,.int .i64 0] 83 (0,0)) by rw [hW];exact aj _ _ _ (by simp));have HSW:=ae (show W.heap.size=w.heap.size+1+1 by rw [hW];simp);have HG:=ae (eV H.out hT hn hm);have HCL:=ae (fun (w':World) (hx:Ext W w')=>mK (H.out.ext hx) hm hT.cols (fun i hi=>by rw [(hT.row i hi).1];omega));have HI1:=ae (fun w'=>bv (r:Int) 0 ((m:Int)-1) w');rw [show inB (r:Int) 0 ((m:Int)-1)=true by unfold inB;simp;omega] at HI1;have HI2:=ae (fun w'=>bv (c:Int) 0 ((n:Int)+(m:Int)-1) w');rw [show inB (c:Int) 0 ((n:Int)+(m:Int)-1)=true by unfold inB;simp;omega] at HI2;have hw1:IntKind.i64.wrap ((n:Int)+(m:Int))=(n:Int)+(m:Int):=by rw [IntKind.wrap_i64];omega
 have hw3:IntKind.i64.wrap ((n:Int)+(m:Int)-1)=(n:Int)+(m:Int)-1:=by rw [IntKind.wrap_i64];omega
 have hw4:IntKind.i64.wrap ((m:Int)-1)=(m:Int)-1:=by rw [IntKind.wrap_i64];omega
 have HYG:=ae (show aQ t (r:Int) (c:Int)=et t r c from fz (hT.args hn hr (by omega)));have HZP:=ae (fun (q:Int) (hp:t.at r c=(0,q))=>jS hT hn hr (show c<n+m by omega) hp);obtain ⟨u,hu⟩:∃ u,u=n+m+1:=⟨_,rfl⟩;have HRL:=ae (show ∀ i,i<m->(t.row i).length=u by intro i hi;rw [hu];exact (hT.row i hi).1);have hcu:c<u:=by omega
 have hub:u<=2001:=by omega
 have hrr:(r:Int)<(m:Int):=by omega
 have hr0:(0:Int)<=(r:Int):=by omega
 have hc0:(0:Int)<=(c:Int):=by omega
 have hcI:(c:Int)<(u:Int):=by omega
 obtain ⟨zb,zoff,za,zn,zc,hza,hzW,hrow⟩:=H.out.rows.at hr;subst hza;have hzn:zn=u:=by rw [<-hrow.hlen];exact HRL.out r hr
 subst hzn;have hrc1:=hrow.hcap;have hrc2:=hrow.hmax;have HROW:=ae (show Rats W za zn zc (t.row r) from hrow);have HZW:=ae hzW;obtain ⟨pb,poff,pp,pq,hpa,hpv,hp0,hp1⟩:=hrow.at hcu;subst hpa;have HP0:=ae hp0;have HP1:=ae hp1;have HPV:=ae (show t.at r c=(pp,pq) from hpv);clear h hT hx0 hu hpv hrow;go_enter Tryz.func56,Tryz.ntmps56
 go_upto_region 1 with fail;rw [<-hW];clear hW;have p0:=al HTB.out;have p1:=am HTB.out;have p2:=ap HTB.out;go_wp2_with fail;refine HG.out.mono ?_;rintro e w1 ⟨rfl,hx⟩;have X1:=ae hx;clear hx p0 p1 p2 hzW hp0 hp1;have p0:=al (X1.out.blk HTB.out);have p1:=am (X1.out.blk HTB.out);have p2:=ap (X1.out.blk HTB.out);have hz0:=X1.out.cellSome HZW.out;have k0:=X1.out.cellSome HP0.out;by_cases hpz:pp=0
 ·have HN:=ae (show aQ t (r:Int) (c:Int)=none from HZP.out pq (by rw [HPV.out,hpz]));subst hpz;go_wp2_with fail;refine (HI1.out _).mono ?_;rintro e w1' ⟨rfl,rfl⟩;go_wp2_with fail;refine (HI2.out _).mono ?_;rintro e w1' ⟨rfl,rfl⟩;go_wp2_with fail;refine (HCL.out _ X1.out).mono ?_;rintro e w8 ⟨⟨va8,vb8,vs8,rfl,ho8⟩,hx⟩;have X8:=ae (X1.out.trans hx);have HO8:=ae ho8;obtain ⟨a7,n7,c7,rfl,HN7⟩:=ho8.a.var;obtain ⟨a8,n8,c8,rfl,HN8⟩:=ho8.b.var;have r0:=al (X8.out.blk HGB.out);have r1:=am (X8.out.blk HGB.out);have r2:=ap (X8.out.blk HGB.out);have rf:=bK (X8.out.blk HGB.out);have hsz:=X1.out.size;have hww:=HSW.out;clear hx ho8 p0 p1 p2;go_wp2_with fail;refine bodyPost_ret (v:=.tuple #[.agg #[.slice a7 n7 c7,.slice a8 n8 c8,.int .i64 (n:Int)],.bool false]) (by simp [results,Tryz.results56,go_sem,r0,r1,r2,rf]) rfl ⟨?_,(HX0.out.trans X8.out).set3 (Nat.le_succ _) _ _ _⟩;refine ⟨.slice a7 n7 c7,.slice a8 n8 c8,vs8,?_,?_⟩
  ·unfold bE;rw [HN.out,Option.getD_none,HCM.out];rfl
  ·unfold bE;rw [HN.out,Option.getD_none];exact (HO8.out.keepAll fun k hk=>aV _ _ _ _ _ _ (by omega)).mono (by omega)
 ·have hppz:(pp == 0)=false:=by simpa using hpz
  clear hpz;go_wp2_with fail;refine (HI1.out _).mono ?_;rintro e w1' ⟨rfl,rfl⟩;go_wp2_with fail;refine (HI2.out _).mono ?_;rintro e w1' ⟨rfl,rfl⟩;go_wp2_with fail;refine (HCL.out _ X1.out).mono ?_;rintro e w2 ⟨⟨va,vb,vs,rfl,ho⟩,hx⟩;have X2:=ae (X1.out.trans hx);obtain ⟨aa,na,ca,rfl,HNA⟩:=ho.a.var;obtain ⟨ab,nb,cb,rfl,HNB⟩:=ho.b.var;obtain rfl:m=na:=by have h1:=ho.rows.len;have h3:=HLR.out;have h4:=HNA.out;omega
  obtain rfl:m=nb:=by have h1:=HNB.out;have h2:=HT.out.blen;omega
  obtain ⟨G,hG,_,_⟩:=ho.a.cell hr;subst hG;obtain ⟨B,hB,_,_,_⟩:=ho.b.block hr;subst hB;obtain ⟨E,hE⟩:∃ E,E=w2.alloc (.cells #[.slice (some ⟨G,0,none⟩) m ca,.slice (some ⟨B,0,none⟩) m cb,.int .i64 (n:Int)] 83):=⟨_,rfl⟩;obtain ⟨gE,hgE⟩:∃ g,g=w2.heap.size:=⟨_,rfl⟩;have hxE:Ext w2 E:=by rw [hE];exact Ext.alloc _ _
  have hbs2:w1.heap.size<=gE:=by rw [hgE];exact hx.size
  have HM0:=ae (show TbM E w1.heap.size gE G m ca (.slice (some ⟨B,0,none⟩) m cb) (n:Int) vs t.rows t.basis from
   ⟨by rw [hE,hgE];exact aj _ _ _ rfl,hbs2,⟨ho.a.ext hxE,ho.rows.ext hxE⟩,ho.b.ext hxE⟩)
  have X1E:=ae (hx.trans hxE);have XE:=ae (X1.out.trans X1E.out);have hsw1:w.heap.size+1+1<=w1.heap.size:=by have:=X1.out.size;have:=HSW.out;omega
  clear ho p0 p1 p2 hx hz0 k0;go_upto_region 4 with fail;rw [<-hE,<-hgE];clear hE hgE hxE;have p0:=al (XE.out.blk HTB.out);have hz0:=XE.out.cellSome HZW.out;have k0:=XE.out.cellSome HP0.out;have k1:=XE.out.cellSome HP1.out;have HLW:=ae (HRL.out r hr);obtain ⟨dv,hdv⟩:∃ d,d=divL (t.row r) (pp,pq):=⟨_,rfl⟩;have HDL:=ae (show divL (t.row r) (t.at r c)=dv by rw [HPV.out,hdv]);have HDV:=ae (fun (w':World) (hx:Ext E w')=>kf (k1:=pp) (k2:=pq) (HROW.out.ext (XE.out.trans hx)) (by omega));simp only [<-hdv] at HDV;clear hdv;have hk2:Ext E E.drew:=Ext.drew E;have HKEEP:=ae (fun (w':World) (h:Ext E w')=>(⟨h.cellSome p0,h.cellSome hz0,h.cellSome k0,h.cellSome k1,h⟩:w'.cell? ⟨w.heap.size,0,none⟩=some (.slice (some ⟨zb,zoff,none⟩) m rc)/\w'.cell? ⟨zb,zoff+r,none⟩=some (.slice (some ⟨pb,poff,none⟩) zn zc)/\w'.cell? ⟨pb,poff+c*2,none⟩=some (.int .i64 pp)/\w'.cell? ⟨pb,poff+c*2+1,none⟩=some (.int .i64 pq)/\Ext E w'));refine wp_region_held_drew (S:=(fun w'=>w'.cell? ⟨w.heap.size,0,none⟩=some (.slice (some ⟨zb,zoff,none⟩) m rc)/\w'.cell? ⟨zb,zoff+r,none⟩=some (.slice (some ⟨pb,poff,none⟩) zn zc)/\w'.cell? ⟨pb,poff+c*2,none⟩=some (.int .i64 pp)/\w'.cell? ⟨pb,poff+c*2+1,none⟩=some (.int .i64 pq)/\Ext E w')) (by kernel_rfl) ?_ (fun hHeld=>?_)
  ·exact HKEEP.out _ hk2
  refine tk 0 ?_;refine tk 1 ?_;refine tk 2 ?_;refine tk 3 ?_;refine tk 4 ?_;refine tk 5 ?_;refine tk 6 ?_;refine tk 7 ?_;refine tk 8 ?_;refine tk 9 ?_;refine tk 10 ?_;refine tk 11 ?_;refine tk 12 ?_;refine rd (i:=13) (h:=fun K hK=>?_);go_simp
  (go_at_call 144;refine (HDV.out _ hk2).mono ?_;rintro e w5 ⟨⟨v5,rfl,ho5⟩,hx5⟩;have hs5:=hk2.size;have hk2:=hk2.trans hx5;obtain ⟨a5,n5,c5,rfl,HN5⟩:=ho5.var)
  go_wp2_with fail;refine hK.out _ _ ?_ (fun hHeld=>?_)
  ·exact HKEEP.out _ hk2
  clear hK K
  try simp only [Act.put,sA,sB,sC]
  refine tk 14 ?_;refine tk 15 ?_;refine tk 16 ?_;refine tk 17 ?_;refine tk 18 ?_;refine wpAnyH_done (by kernel_rfl) ?_ _;have X5:=ae (XE.out.trans hk2);have X15:=ae (X1E.out.trans hk2);have HE5:=ae hk2;have HO5:=ae (ho5.mono hs5);clear hk2 ho5 p0 hz0 k0 k1;cases dv with
  | none =>
    have HN:=ae (show aQ t (r:Int) (c:Int)=none by rw [HYG.out];exact fw HDL.out);have p0:=al (X5.out.blk HTB.out);have p1:=am (X5.out.blk HTB.out);have p2:=ap (X5.out.blk HTB.out);go_wp2_with fail;refine (HCL.out _ X5.out).mono ?_;rintro e w8 ⟨⟨va8,vb8,vs8,rfl,ho8⟩,hx⟩;have X8:=ae (X5.out.trans hx);have HO8:=ae ho8;obtain ⟨a7,n7,c7,rfl,HN7⟩:=ho8.a.var;obtain ⟨a8,n8,c8,rfl,HN8⟩:=ho8.b.var;have r0:=al (X8.out.blk HGB.out);have r1:=am (X8.out.blk HGB.out);have r2:=ap (X8.out.blk HGB.out);have rf:=bK (X8.out.blk HGB.out);have hsz:=X5.out.size;have hww:=HSW.out;clear hx ho8 p0 p1 p2;go_wp2_with fail;refine bodyPost_ret (v:=.tuple #[.agg #[.slice a7 n7 c7,.slice a8 n8 c8,.int .i64 (n:Int)],.bool false]) (by simp [results,Tryz.results56,go_sem,r0,r1,r2,rf]) rfl ⟨?_,(HX0.out.trans X8.out).set3 (Nat.le_succ _) _ _ _⟩;refine ⟨.slice a7 n7 c7,.slice a8 n8 c8,vs8,?_,?_⟩
    ·unfold bE;rw [HN.out,Option.getD_none,HCM.out];rfl
    ·unfold bE;rw [HN.out,Option.getD_none];exact (HO8.out.keepAll fun k hk=>aV _ _ _ _ _ _ (by omega)).mono (by omega)
  | some mm =>
    have HPG:=ae (show aQ t (r:Int) (c:Int)=(pivN t r c mm m).map fun rs=>⟨rs,t.basis.set r (c:Int),(n:Int)⟩ by
     rw [HYG.out,gw HDL.out,HLR.out,HCM.out])
    have HOM:=ae (show OwnR w5 E.heap.size (.slice a5 n5 c5) mm from HO5.out);have HLM:=ae (show mm.length=zn by have h1:=HDL.out;unfold divL at h1;rw [HLW.out] at h1;exact cW h1);have HM5:=ae (HM0.out.ext HE5.out);have c8:=HM5.out.c0;obtain ⟨G',hG',hbG,hGc⟩:=HM5.out.m.own.cell hr;simp only [Option.some.injEq,Addr.mk.injEq,and_true] at hG';subst hG';have hgk:w5.cell? ⟨G,r,none⟩=some (vs[r]?.getD undef):=by
     rw [hGc r hr];have:r<vs.length:=by rw [HM5.out.m.vlen];exact hr
     simp [this]
    obtain ⟨G',hG',_,_,hfr⟩:=HM5.out.m.outer (by omega);simp only [Option.some.injEq,Addr.mk.injEq,and_true] at hG';subst hG';have HE1s:=ae (show w1.heap.size<=E.heap.size from X1E.out.size);have HM6:=ae (HM0.out.put HE5.out HE1s.out HOM.out hr)
    have HOM6:=ae (show OwnR (w5.setCell ⟨G,r,none⟩ (.slice a5 n5 c5)) E.heap.size (.slice a5 n5 c5) mm from
     HOM.out.keep fun k hk=>heap_setCell_other _ _ _ _ fun e=>au (by decide) HOM.out HM5.out.m.own k hk (by subst e;rfl))
    have HX6:=ae (X15.out.setCell (p:=⟨G,r,none⟩) hbG (.slice a5 n5 c5));clear hGc;go_upto_region 8 with fail;obtain ⟨w6,hw6⟩:∃ x,x=w5.setCell ⟨G,r,none⟩ (.slice a5 n5 c5):=⟨_,rfl⟩;rw [<-hw6] at HM6 HOM6 HX6;rw [<-hw6];clear hw6 c8 hgk hfr hbG;have p0:=al ((X1.out.trans HX6.out).blk HTB.out);go_wp2_with fail
    go_loopg [11] m (fun gk ii wr=>∃ (k:Nat) (vs2:List Value) (M:List (List (Int × Int))),Hid (gk+k=m)/\ii=.int .i64 (k:Int)/\Hid (pivN t r c mm k=some M)/\Hid (TbM wr w1.heap.size gE G m ca (.slice (some ⟨B,0,none⟩) m cb) (n:Int) vs2 M t.basis)/\Hid (OwnR wr E.heap.size (.slice a5 n5 c5) mm)/\Hid (Ext w1 wr))
    case atStart=>exact ⟨0,_,_,ae (by omega),rfl,ae rfl,HM6,HOM6,HX6⟩
    case round =>
     obtain ⟨g2,h_g2⟩:∃ x,x=gk:=⟨_,rfl⟩;subst h_g2;obtain ⟨wr2,h_wr2⟩:∃ x,x=wr:=⟨_,rfl⟩;subst h_wr2;obtain ⟨k,vs2,M,HK2,rfl,HPN,HT2,HO2,HX2⟩:=hrel;clear p0;have p0:=al ((X1.out.trans HX2.out).blk HTB.out);have hsr2:=HX2.out.size;by_cases hlt2:k<m
     ·obtain ⟨zb2,zoff2,ya,yn,yc,hza2,hzk,hrowk⟩:=(H.out.ext (X1.out.trans HX2.out)).rows.at hlt2;simp only [Option.some.injEq,Addr.mk.injEq,and_true] at hza2;obtain ⟨rfl,rfl⟩:=hza2;obtain rfl:zn=yn:=by rw [<-hrowk.hlen];exact (HRL.out k hlt2).symm
      have HRK:=ae (show Rats wr2 ya zn yc (t.row k) from hrowk);obtain ⟨yb,yoff,p,q,hya,hpq,hy0,hy1⟩:=HRK.out.at hcu;subst hya;have HPQ:=ae (show t.at k c=(p,q) from hpq);have hyk1:=hrowk.hcap;have hyk2:=hrowk.hmax;have HZK:=ae hzk;have hwn:IntKind.i64.wrap (-p)=-p:=by
       have h1:=(HT.out.bounds.2 k c).1;have h2:=(HT.out.bounds.2 k c).2;rw [HPQ.out] at h1 h2;rw [IntKind.wrap_i64];simp only at h1 h2;omega
      clear hpq hrowk;have HSK:=ae (show decide (k=r ∨ t.at k c=(0,1))=(decide (k=r)||((p == 0)&&(q == 1))) by rw [HPQ.out,Bool.eq_iff_iff];simp);obtain ⟨E3,hE3⟩:∃ x,x=wr2.alloc (.cells #[.int .i64 p,.int .i64 q] 43):=⟨_,rfl⟩;obtain ⟨gx,hgx⟩:∃ x,x=wr2.heap.size:=⟨_,rfl⟩;have HBX:=ae (show ah wr2 E3 gx p q by rw [hE3,hgx];exact ah.new (Ext.refl _) _ _);go_upto_region 12 with fail;rw [<-hE3,<-hgx];clear hE3 hgx p0 hy0 hy1 hzk;have b0:=HBX.out.c0;have b1:=HBX.out.c1
      go_cut [103] (fun s102 wx=>s102=.bool (decide (k=r ∨ t.at k c=(0,1)))/\Hid (Ext E3 wx))
      case first =>
       have hk2:Ext E3 E3.drew:=Ext.drew E3;by_cases hkr:k=r
       ·have heq:((k:Int) == (r:Int))=true:=by simp;omega
        have HE9:=ae (show decide (k=r ∨ t.at k c=(0,1))=true by rw [HSK.out,decide_eq_true hkr];rfl);clear hkr;refine wp_region_held_drew (S:=(fun w'=>w'.cell? ⟨gx,0,none⟩=some (.int .i64 p)/\w'.cell? ⟨gx,1,none⟩=some (.int .i64 q)/\Ext E3 w')) (by kernel_rfl) ?_ (fun hHeld=>?_)
        ·exact ⟨hk2.cellSome b0,hk2.cellSome b1,hk2⟩
        refine tk 0 ?_;refine tk 1 ?_;refine tk 2 ?_;refine tk 3 ?_;refine sk 4 ?_;refine sk 5 ?_;refine sk 6 ?_;refine tk 7 ?_;refine wpAnyH_done (by kernel_rfl) ?_ _;go_wp2_with fail;go_meet;exact ⟨by rw [HE9.out],ae hk2⟩
       ·have heq:((k:Int) == (r:Int))=false:=by simp;omega
        have HE9:=ae (show decide (k=r ∨ t.at k c=(0,1))=((p == 0)&&(q == 1)) by rw [HSK.out,decide_eq_false hkr];rfl);clear hkr;cases h1:(p == 0)
        all_goals
         cases h2:(q == 1)
        all_goals
         have HE8:=ae HE9.out;rw [h1,h2] at HE8;refine wp_region_held_drew (S:=(fun w'=>w'.cell? ⟨gx,0,none⟩=some (.int .i64 p)/\w'.cell? ⟨gx,1,none⟩=some (.int .i64 q)/\Ext E3 w')) (by kernel_rfl) ?_ (fun hHeld=>?_)
         ·exact ⟨hk2.cellSome b0,hk2.cellSome b1,hk2⟩
         refine tk 0 ?_;refine tk 1 ?_;refine tk 2 ?_;refine tk 3 ?_;refine tk 4 ?_;refine rd (i:=5) (h:=fun K hK=>?_);go_simp
         (go_at_call 86;refine (ce _ _).mono ?_;rintro e w3 ⟨rfl,hx3⟩;have hk2:=hk2.trans hx3)
         go_wp2_with fail;refine hK.out _ _ ?_ (fun hHeld=>?_)
         ·exact ⟨hk2.cellSome b0,hk2.cellSome b1,hk2⟩
         clear hK K
         try simp only [Act.put,sA,sB,sC]
         refine tk 6 ?_;refine tk 7 ?_;refine wpAnyH_done (by kernel_rfl) ?_ _;go_wp2_with fail;go_meet;exact ⟨by rw [HE8.out];rfl,ae hk2⟩
      obtain ⟨rfl,HXC⟩:=hcut;have HB3:=ae (HBX.out.grow HXC.out);have HT3:=ae (HT2.out.ext HB3.out.ext);have HO3:=ae (HO2.out.ext HB3.out.ext);have HX3:=ae (HX2.out.trans HB3.out.ext);have HRK3:=ae (HRK.out.ext HB3.out.ext);clear b0 b1;cases hsk:decide (k=r ∨ t.at k c=(0,1))
      ·have HNS:=ae (of_decide_eq_false hsk);clear hsk;have p0:=al ((X1.out.trans HX3.out).blk HTB.out);have hzk:=HB3.out.ext.cellSome HZK.out;have b0:=HB3.out.c0;have b1:=HB3.out.c1;obtain ⟨sv,hsv⟩:∃ s,s=sclL (t.row k) (-p,q) mm:=⟨_,rfl⟩;have HSV:=ae (show pivN t r c mm (k+1)=sv.map fun x=>M.set k x by rw [hsv,kA HPN.out HNS.out,HPQ.out];rfl);have HSC:=ae (fun (w':World) (hx:Ext wc w')=>gD (k1:=-p) (k2:=q) (HRK3.out.ext hx) (HO3.out.ext hx).rats (by omega));simp only [<-hsv] at HSC;have hk0:(0:Int)<=(k:Int):=by omega
       have hk1:(k:Int)<(m:Int):=by omega
       clear hsv;go_upto_region 13 with fail;have hk2:Ext wc wc.drew:=Ext.drew wc;have HKEEP:=ae (fun (w':World) (h:Ext wc w')=>(⟨h.cellSome p0,h.cellSome hzk,h.cellSome b0,h.cellSome b1,h⟩:w'.cell? ⟨w.heap.size,0,none⟩=some (.slice (some ⟨zb,zoff,none⟩) m rc)/\w'.cell? ⟨zb,zoff+k,none⟩=some (.slice (some ⟨yb,yoff,none⟩) zn yc)/\w'.cell? ⟨gx,0,none⟩=some (.int .i64 p)/\w'.cell? ⟨gx,1,none⟩=some (.int .i64 q)/\Ext wc w'));refine wp_region_held_drew (S:=(fun w'=>w'.cell? ⟨w.heap.size,0,none⟩=some (.slice (some ⟨zb,zoff,none⟩) m rc)/\w'.cell? ⟨zb,zoff+k,none⟩=some (.slice (some ⟨yb,yoff,none⟩) zn yc)/\w'.cell? ⟨gx,0,none⟩=some (.int .i64 p)/\w'.cell? ⟨gx,1,none⟩=some (.int .i64 q)/\Ext wc w')) (by kernel_rfl) ?_ (fun hHeld=>?_)
       ·exact HKEEP.out _ hk2
       refine tk 0 ?_;refine tk 1 ?_;refine tk 2 ?_;refine tk 3 ?_;refine tk 4 ?_;refine tk 5 ?_;refine tk 6 ?_;refine tk 7 ?_;refine tk 8 ?_;refine tk 9 ?_;refine tk 10 ?_;refine tk 11 ?_;refine rd (i:=12) (h:=fun K hK=>?_);go_simp
       (go_at_call 145;refine (HSC.out _ hk2).mono ?_;rintro e w4 ⟨⟨v4,rfl,ho4⟩,hx4⟩;have hs4:=hk2.size;have hk2:=hk2.trans hx4;obtain ⟨a4,n4,c4,rfl,hn4⟩:=ho4.var)
       go_wp2_with fail;refine hK.out _ _ ?_ (fun hHeld=>?_)
       ·exact HKEEP.out _ hk2
       clear hK K
       try simp only [Act.put,sA,sB,sC]
       refine tk 13 ?_;refine tk 14 ?_;refine tk 15 ?_;refine tk 16 ?_;refine tk 17 ?_;refine wpAnyH_done (by kernel_rfl) ?_ _;have HX4:=ae (HX3.out.trans hk2);have HT4:=ae (HT3.out.ext hk2);have HO4:=ae (ho4.mono hs4);have HOM4:=ae (HO3.out.ext hk2);have HK4:=ae hk2;clear hk2 ho4 hzk b0 b1 p0 hwn;cases sv with
       | none =>
         have HN:=ae (show aQ t (r:Int) (c:Int)=none by rw [HPG.out,is (k:=k+1) (by rw [HSV.out];rfl) hlt2];rfl);have XF:=ae (X1.out.trans HX4.out);have p0:=al (XF.out.blk HTB.out);have p1:=am (XF.out.blk HTB.out);have p2:=ap (XF.out.blk HTB.out);go_wp2_with fail;refine (HCL.out _ XF.out).mono ?_;rintro e w8 ⟨⟨va8,vb8,vs8,rfl,ho8⟩,hx⟩;have X8:=ae (XF.out.trans hx);have HO8:=ae ho8;obtain ⟨a7,n7,c7,rfl,HN7⟩:=ho8.a.var;obtain ⟨a8,n8,c8,rfl,HN8⟩:=ho8.b.var;have r0:=al (X8.out.blk HGB.out);have r1:=am (X8.out.blk HGB.out);have r2:=ap (X8.out.blk HGB.out);have rf:=bK (X8.out.blk HGB.out);have hsz:=XF.out.size;have hww:=HSW.out;clear hx ho8 p0 p1 p2;go_wp2_with fail;refine bodyPost_ret (v:=.tuple #[.agg #[.slice a7 n7 c7,.slice a8 n8 c8,.int .i64 (n:Int)],.bool false]) (by simp [results,Tryz.results56,go_sem,r0,r1,r2,rf]) rfl ⟨?_,(HX0.out.trans X8.out).set3 (Nat.le_succ _) _ _ _⟩;refine ⟨.slice a7 n7 c7,.slice a8 n8 c8,vs8,?_,?_⟩
         ·unfold bE;rw [HN.out,Option.getD_none,HCM.out];rfl
         ·unfold bE;rw [HN.out,Option.getD_none];exact (HO8.out.keepAll fun k hk=>aV _ _ _ _ _ _ (by omega)).mono (by omega)
       | some nr =>
         have c8:=HT4.out.c0;obtain ⟨G',hG',hbG,hGc⟩:=HT4.out.m.own.cell hlt2;simp only [Option.some.injEq,Addr.mk.injEq,and_true] at hG';subst hG';have hgk:w4.cell? ⟨G,k,none⟩=some (vs2[k]?.getD undef):=by
          rw [hGc k hlt2];have:k<vs2.length:=by rw [HT4.out.m.vlen];exact hlt2
          simp [this]
         obtain ⟨G',hG',_,_,hfr⟩:=HT4.out.m.outer (by omega);simp only [Option.some.injEq,Addr.mk.injEq,and_true] at hG';subst hG';have HT5:=ae (HT3.out.put HK4.out (by have:=HX3.out.size;omega) HO4.out hlt2);have HX5:=ae (HX4.out.setCell (p:=⟨G,k,none⟩) hbG (.slice a4 n4 c4))
         have HOM5:=ae (show OwnR (w4.setCell ⟨G,k,none⟩ (.slice a4 n4 c4)) E.heap.size (.slice a5 n5 c5) mm from
          HOM4.out.keep fun j hj=>heap_setCell_other _ _ _ _ fun e=>au (by decide) HOM4.out HT4.out.m.own j hj (by subst e;rfl))
         have HP5:=ae (show pivN t r c mm (k+1)=some (M.set k nr) by rw [HSV.out];rfl);clear hGc;go_wp2_with fail
         go_roundg (g2-1)
         case measure=>have:=HK2.out;omega
         case rel=>exact ⟨k+1,_,_,ae (by have:=HK2.out;omega),by go_num,HP5,HT5,HOM5,HX5⟩
      ·have HS1:=ae (it HPN.out (of_decide_eq_true hsk));clear hsk hwn;go_wp2_with fail
       go_roundg (g2-1)
       case measure=>have:=HK2.out;omega
       case rel=>exact ⟨k+1,vs2,M,ae (by have:=HK2.out;omega),by go_num,HS1,HT3,HO3,HX3⟩
     ·have hkn:m=k:=by have:=HK2.out;omega
      subst hkn;have HN:=ae (show aQ t (r:Int) (c:Int)=some ⟨M,t.basis.set r (c:Int),(n:Int)⟩ by rw [HPG.out,HPN.out];rfl);have c81:=am HT2.out.box;obtain ⟨B',off',hB',hbc⟩:=HT2.out.b.ints.at hr;simp only [Option.some.injEq,Addr.mk.injEq,and_true] at hB';obtain ⟨rfl,rfl⟩:=hB';obtain ⟨B',hB',hbB,hbf,_⟩:=HT2.out.b.block hr;simp only [Option.some.injEq,Addr.mk.injEq,and_true] at hB';subst hB';rw [Nat.zero_add] at hbc;have HT9:=ae (HT2.out.putB r (c:Int));have HX9:=ae (HX2.out.setCell (p:=⟨B,r,none⟩) hbB (.int .i64 (c:Int)));go_upto_region 18 with fail;obtain ⟨W9,hW9⟩:∃ x,x=wr2.setCell ⟨B,r,none⟩ (.int .i64 (c:Int)):=⟨_,rfl⟩;rw [<-hW9] at HT9 HX9 ⊢;clear hW9 c81 hbc hbf;have r0:=al ((X1.out.trans HX9.out).blk HGB.out);have r1:=am ((X1.out.trans HX9.out).blk HGB.out);have r2:=ap ((X1.out.trans HX9.out).blk HGB.out);have rf:=bK ((X1.out.trans HX9.out).blk HGB.out);have t0:=al HT9.out.box;have t1:=am HT9.out.box;have t2:=ap HT9.out.box;go_wp2_with fail;refine bodyPost_ret (v:=.tuple #[.agg #[.slice (some ⟨G,0,none⟩) m ca,.slice (some ⟨B,0,none⟩) m cb,.int .i64 (n:Int)],.bool true]) (by simp [results,Tryz.results56,go_sem,r0,r1,r2,rf]) rfl ⟨?_,((HX0.out.trans X1.out).trans HX9.out).set3 (Nat.le_succ _) _ _ _⟩;refine ⟨.slice (some ⟨G,0,none⟩) m ca,.slice (some ⟨B,0,none⟩) m cb,vs2,?_,?_⟩
      ·unfold bE;rw [HN.out,Option.getD_some];rfl
      ·unfold bE;rw [HN.out,Option.getD_some];exact (HT9.out.own.keepAll fun k hk=>aV _ _ _ _ _ _ (by omega)).mono (by omega)
end
end Go.Proofs.YthjjfkeacobikaaGreat
namespace Go.Proofs.YthjjfkeacobikaaGreat
set_option maxRecDepth 100000
open Go.RowKit
section
variable {w:World} {ra:Option Addr} {rc:Nat} {ba:Option Addr} {bc:Nat} {t:Tb} {n m mb:Nat}
set_option maxHeartbeats 8000000 in
theorem qm (h:TbC w ra m rc ba mb bc t) (hne:mb ≠ m) (hn:n<=1000) :
 Calls Tryz.prog 142 #[tbW ra m rc ba mb bc (n:Int)] w fun e w'=>e=.returned (.bool false)/\Ext w w':=by
 have hx0:=Ext.alloc w (bp ra m rc ba mb bc (n:Int));have HX0:=ae hx0;have HTB:=ae (show (w.alloc (bp ra m rc ba mb bc (n:Int))).heap[w.heap.size]?=some (.cells #[.slice ra m rc,.slice ba mb bc,.int .i64 (n:Int)] 83 (0,0)) from aj _ _ _ rfl);have h1:=h.rows.hcap;have h2:=h.rows.hmax;have h3:=h.basis.hcap;have h4:=h.basis.hmax;clear h hx0;have hn0:¬ (n:Int)<0:=by omega
 have hn1:¬ (n:Int) > 1000:=by omega
 have hmm:((mb:Int) != (m:Int))=true:=by simp;omega
 go_enter Tryz.func142,Tryz.ntmps142
 go_wp2_with fail;go_ret;exact ⟨rfl,HX0.out⟩
set_option maxHeartbeats 8000000 in
theorem qn (h:TbC w ra m rc ba m bc t) (hn:n<=1000) (hm0:0<m) (hm:m<=1000) (hrow:(t.row 0).length ≠ n+m+1) :
 Calls Tryz.prog 142 #[tbW ra m rc ba m bc (n:Int)] w fun e w'=>e=.returned (.bool false)/\Ext w w':=by
 have hx0:=Ext.alloc w (bp ra m rc ba m bc (n:Int));have HX0:=ae hx0;have H:=ae (h.ext hx0);have HTB:=ae (show (w.alloc (bp ra m rc ba m bc (n:Int))).heap[w.heap.size]?=some (.cells #[.slice ra m rc,.slice ba m bc,.int .i64 (n:Int)] 83 (0,0)) from aj _ _ _ rfl);have h1:=h.rows.hcap;have h2:=h.rows.hmax;have h3:=h.basis.hcap;have h4:=h.basis.hmax;have HR:=ae hrow;clear h hx0 hrow;have hn0:¬ (n:Int)<0:=by omega
 have hn1:¬ (n:Int) > 1000:=by omega
 have hmm:((m:Int) != (m:Int))=false:=by simp
 go_enter Tryz.func142,Tryz.ntmps142
 go_wp2_with fail
 go_loopg [4] m (fun gk ii wr=>ii=.int .i64 0/\Hid (Ext (w.alloc (bp ra m rc ba m bc (n:Int))) wr))
 case atStart=>exact ⟨rfl,ae (Ext.refl _)⟩
 case round =>
  obtain ⟨g1,h_g1⟩:∃ x,x=gk:=⟨_,rfl⟩;subst h_g1;obtain ⟨wr1,h_wr1⟩:∃ x,x=wr:=⟨_,rfl⟩;subst h_wr1;obtain ⟨rfl,HX⟩:=hrel;have p0:=al (HX.out.blk HTB.out);have p1:=am (HX.out.blk HTB.out);have p2:=ap (HX.out.blk HTB.out);obtain ⟨zb,zoff,ya,yn,yc,hza,hz0,hrow⟩:=(H.out.ext HX.out).rows.at hm0;subst hza;have hyn:yn ≠ n+m+1:=by rw [<-hrow.hlen];exact HR.out
  have hy1:=hrow.hcap;have hy2:=hrow.hmax;have hw1:IntKind.i64.wrap ((n:Int)+(m:Int))=(n:Int)+(m:Int):=by rw [IntKind.wrap_i64];omega
  have hw2:IntKind.i64.wrap ((n:Int)+(m:Int)+1)=(n:Int)+(m:Int)+1:=by rw [IntKind.wrap_i64];omega
  have hyy:((yn:Int) != (n:Int)+(m:Int)+1)=true:=by simp;omega
  have hk1:(0:Int)<(m:Int):=by omega
  rw [Nat.add_zero] at hz0;clear hrow hyn;go_upto_region 7 with fail;have hk2:Ext wr1 wr1.drew:=Ext.drew wr1;have HKEEP:=ae (fun (w':World) (h:Ext wr1 w')=>(⟨h.cellSome p0,h.cellSome p1,h.cellSome p2,h.cellSome hz0,h⟩:w'.cell? ⟨w.heap.size,0,none⟩=some (.slice (some ⟨zb,zoff,none⟩) m rc)/\w'.cell? ⟨w.heap.size,1,none⟩=some (.slice ba m bc)/\w'.cell? ⟨w.heap.size,2,none⟩=some (.int .i64 (n:Int))/\w'.cell? ⟨zb,zoff,none⟩=some (.slice ya yn yc)/\Ext wr1 w'));refine wp_region_held_drew (S:=(fun w'=>w'.cell? ⟨w.heap.size,0,none⟩=some (.slice (some ⟨zb,zoff,none⟩) m rc)/\w'.cell? ⟨w.heap.size,1,none⟩=some (.slice ba m bc)/\w'.cell? ⟨w.heap.size,2,none⟩=some (.int .i64 (n:Int))/\w'.cell? ⟨zb,zoff,none⟩=some (.slice ya yn yc)/\Ext wr1 w')) (by kernel_rfl) ?_ (fun hHeld=>?_)
  ·exact HKEEP.out _ hk2
  refine tk 0 ?_;refine tk 1 ?_;refine tk 2 ?_;refine tk 3 ?_;refine tk 4 ?_;refine tk 5 ?_;refine tk 6 ?_;refine tk 7 ?_;refine tk 8 ?_;refine tk 9 ?_;refine tk 10 ?_;refine tk 11 ?_;refine tk 12 ?_;refine sk 13 ?_;refine sk 14 ?_;refine sk 15 ?_;refine sk 16 ?_;refine sk 17 ?_;refine sk 18 ?_;refine sk 19 ?_;refine sk 20 ?_;refine sk 21 ?_;refine sk 22 ?_;refine sk 23 ?_;refine sk 24 ?_;refine tk 25 ?_;refine wpAnyH_done (by kernel_rfl) ?_ _;have HX2:=ae (HX.out.trans hk2);clear hw1 hw2 hyy p0 p1 p2 hz0;go_wp2_with fail;go_ret;exact ⟨rfl,HX0.out.trans HX2.out⟩
set_option maxHeartbeats 16000000 in
theorem eN (h:TbC w ra m rc ba mb bc t) (hn:n<=1000) (hm:m<=1000) (hmb:mb<=2000) (hcols:t.cols=n) (hrl:∀ i,i<m->(t.row i).length<=1048576) {row col:Int} {g:Bool}
 (hg:∀ w',Ext w w'->Calls Tryz.prog 142 #[tbW ra m rc ba mb bc (n:Int)] w' fun e w2=>e=.returned (.bool g)/\Ext w' w2)
 (hno:(g&&(inB row 0 ((m:Int)-1)&&inB col 0 ((n:Int)+(m:Int)-1)))=false) :
 Calls Tryz.prog 56 #[tbW ra m rc ba mb bc (n:Int),.int .i64 row,.int .i64 col] w fun e w'=>PivR w' w.heap.size e t false/\Ext w w':=by
 have hx0:=(Ext.alloc w (bp ra m rc ba mb bc (n:Int))).trans (Ext.alloc _ (.cells #[.slice none 0 0,.slice none 0 0,.int .i64 0] 83));obtain ⟨W,hW⟩:∃ W,W=(w.alloc (bp ra m rc ba mb bc (n:Int))).alloc (.cells #[.slice none 0 0,.slice none 0 0,.int .i64 0] 83):=⟨_,rfl⟩;rw [<-hW] at hx0;have HX0:=ae hx0;have H:=ae (h.ext hx0);have hr1:=h.rows.hcap;have hr2:=h.rows.hmax;have HCM:=ae hcols;have HTB:=ae (show W.heap[w.heap.size]?=some (.cells #[.slice ra m rc,.slice ba mb bc,.int .i64 (n:Int)] 83 (0,0)) by rw [hW,bz _ _ _ (by simp)];exact aj _ _ _ rfl);have HGB:=ae (show W.heap[w.heap.size+1]?=some (.cells #[.slice none 0 0,.slice none 0 0,.int .i64 0] 83 (0,0)) by rw [hW];exact aj _ _ _ (by simp));have HSW:=ae (show W.heap.size=w.heap.size+1+1 by rw [hW];simp);have HG:=ae (hg W hx0);have HCL:=ae (fun (w':World) (hx:Ext W w')=>ql (H.out.ext hx) hm hmb hcols hrl);have HI1:=ae (fun w'=>bv row 0 ((m:Int)-1) w');have HI2:=ae (fun w'=>bv col 0 ((n:Int)+(m:Int)-1) w');have hw1:IntKind.i64.wrap ((n:Int)+(m:Int))=(n:Int)+(m:Int):=by rw [IntKind.wrap_i64];omega
 have hw3:IntKind.i64.wrap ((n:Int)+(m:Int)-1)=(n:Int)+(m:Int)-1:=by rw [IntKind.wrap_i64];omega
 have hw4:IntKind.i64.wrap ((m:Int)-1)=(m:Int)-1:=by rw [IntKind.wrap_i64];omega
 obtain ⟨b1,hb1⟩:∃ b,b=inB row 0 ((m:Int)-1):=⟨_,rfl⟩;obtain ⟨b2,hb2⟩:∃ b,b=inB col 0 ((n:Int)+(m:Int)-1):=⟨_,rfl⟩;rw [<-hb1] at HI1 hno;rw [<-hb2] at HI2 hno;clear hb1 hb2 h hx0 hg hcols hrl;have hcase:g=false ∨ (g=true/\b1=false) ∨ (g=true/\b1=true/\b2=false):=by
  cases g
  ·exact .inl rfl
  ·cases b1
   ·exact .inr (.inl ⟨rfl,rfl⟩)
   ·exact .inr (.inr ⟨rfl,rfl,by simpa using hno⟩)
 clear hno;go_enter Tryz.func56,Tryz.ntmps56
 go_upto_region 1 with fail;rw [<-hW];clear hW;have p0:=al HTB.out;have p1:=am HTB.out;have p2:=ap HTB.out;go_wp2_with fail;refine HG.out.mono ?_;rintro e w1 ⟨rfl,hx⟩;have X1:=ae hx;clear hx p0 p1 p2;have p0:=al (X1.out.blk HTB.out);have p1:=am (X1.out.blk HTB.out);have p2:=ap (X1.out.blk HTB.out)
 rcases hcase with rfl|⟨rfl,rfl⟩|⟨rfl,rfl,rfl⟩
 ·go_wp2_with fail;refine (HCL.out _ X1.out).mono ?_;rintro e w8 ⟨⟨va8,vb8,vs8,rfl,ho8⟩,hx⟩;have X8:=ae (X1.out.trans hx);have HO8:=ae ho8;obtain ⟨a7,n7,c7,rfl,HN7⟩:=ho8.a.var;obtain ⟨a8,n8,c8,rfl,HN8⟩:=ho8.b.var;have r0:=al (X8.out.blk HGB.out);have r1:=am (X8.out.blk HGB.out);have r2:=ap (X8.out.blk HGB.out);have rf:=bK (X8.out.blk HGB.out);have hsz:=X1.out.size;have hww:=HSW.out;clear hx ho8 p0 p1 p2;go_wp2_with fail;refine bodyPost_ret (v:=.tuple #[.agg #[.slice a7 n7 c7,.slice a8 n8 c8,.int .i64 (n:Int)],.bool false]) (by simp [results,Tryz.results56,go_sem,r0,r1,r2,rf]) rfl ⟨?_,(HX0.out.trans X8.out).set3 (Nat.le_succ _) _ _ _⟩;exact ⟨.slice a7 n7 c7,.slice a8 n8 c8,vs8,by rw [HCM.out],(HO8.out.keepAll fun k hk=>aV _ _ _ _ _ _ (by omega)).mono (by omega)⟩
 ·go_wp2_with fail;refine (HI1.out _).mono ?_;rintro e w1' ⟨rfl,rfl⟩;go_wp2_with fail;refine (HCL.out _ X1.out).mono ?_;rintro e w8 ⟨⟨va8,vb8,vs8,rfl,ho8⟩,hx⟩;have X8:=ae (X1.out.trans hx);have HO8:=ae ho8;obtain ⟨a7,n7,c7,rfl,HN7⟩:=ho8.a.var;obtain ⟨a8,n8,c8,rfl,HN8⟩:=ho8.b.var;have r0:=al (X8.out.blk HGB.out);have r1:=am (X8.out.blk HGB.out);have r2:=ap (X8.out.blk HGB.out);have rf:=bK (X8.out.blk HGB.out);have hsz:=X1.out.size;have hww:=HSW.out;clear hx ho8 p0 p1 p2;go_wp2_with fail;refine bodyPost_ret (v:=.tuple #[.agg #[.slice a7 n7 c7,.slice a8 n8 c8,.int .i64 (n:Int)],.bool false]) (by simp [results,Tryz.results56,go_sem,r0,r1,r2,rf]) rfl ⟨?_,(HX0.out.trans X8.out).set3 (Nat.le_succ _) _ _ _⟩;exact ⟨.slice a7 n7 c7,.slice a8 n8 c8,vs8,by rw [HCM.out],(HO8.out.keepAll fun k hk=>aV _ _ _ _ _ _ (by omega)).mono (by omega)⟩
 ·go_wp2_with fail;refine (HI1.out _).mono ?_;rintro e w1' ⟨rfl,rfl⟩;go_wp2_with fail;refine (HI2.out _).mono ?_;rintro e w1' ⟨rfl,rfl⟩;go_wp2_with fail;refine (HCL.out _ X1.out).mono ?_;rintro e w8 ⟨⟨va8,vb8,vs8,rfl,ho8⟩,hx⟩;have X8:=ae (X1.out.trans hx);have HO8:=ae ho8;obtain ⟨a7,n7,c7,rfl,HN7⟩:=ho8.a.var;obtain ⟨a8,n8,c8,rfl,HN8⟩:=ho8.b.var;have r0:=al (X8.out.blk HGB.out);have r1:=am (X8.out.blk HGB.out);have r2:=ap (X8.out.blk HGB.out);have rf:=bK (X8.out.blk HGB.out);have hsz:=X1.out.size;have hww:=HSW.out;clear hx ho8 p0 p1 p2;go_wp2_with fail;refine bodyPost_ret (v:=.tuple #[.agg #[.slice a7 n7 c7,.slice a8 n8 c8,.int .i64 (n:Int)],.bool false]) (by simp [results,Tryz.results56,go_sem,r0,r1,r2,rf]) rfl ⟨?_,(HX0.out.trans X8.out).set3 (Nat.le_succ _) _ _ _⟩;exact ⟨.slice a7 n7 c7,.slice a8 n8 c8,vs8,by rw [HCM.out],(HO8.out.keepAll fun k hk=>aV _ _ _ _ _ _ (by omega)).mono (by omega)⟩
end
end Go.Proofs.YthjjfkeacobikaaGreat
