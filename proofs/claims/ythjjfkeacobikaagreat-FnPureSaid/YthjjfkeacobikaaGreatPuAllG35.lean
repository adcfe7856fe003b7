import Derived.Test.YthjjfkeacobikaaGreatPuAllG30
import Derived.Test.YthjjfkeacobikaaGreatPuAllG48
import Derived.Test.YthjjfkeacobikaaGreatPuAllG17
set_option linter.unusedVariables false
set_option linter.unusedSimpArgs false
namespace Go.Proofs.YthjjfkeacobikaaGreat
theorem nU (p:Int) (V:List Int):∀ (f:Nat) (L:List (Int × Int × Int)) (k:Nat),(nucF p V f L k).pt.length<=p.toNat/\(nucF p V f L k).st.length<=L.length+f*V.length
 | 0,L,k=>⟨Nat.zero_le _,Nat.zero_le _⟩
 | f+1,L,k=>by
   have ih:=nU p V f (cV V L (bQ p.toNat V L)) (k+1);have hl:(cV V L (bQ p.toNat V L)).length<=L.length+V.length:=by
    unfold cV;rw [List.length_append];have h1:=gZ (frN V L) (bQ p.toNat V L) (frN V L).length;have h2:(frN V L).length<=V.length-2:=dh L (V.length-2);omega
   have hm:(f+1)*V.length=f*V.length+V.length:=Nat.succ_mul _ _;unfold nucF
   split
   ·split
    ·refine ⟨?_,?_⟩
     ·show ((_:List (Int × Int)).map negR).length<=_;rw [List.length_map,List.length_take];omega
     ·show (cV V L (bQ p.toNat V L)).length<=_;omega
    ·exact ⟨ih.1,by omega⟩
   ·exact ⟨Nat.zero_le _,Nat.zero_le _⟩
theorem nucR_bd (p:Int) (V:List Int):(nucR p V).pt.length<=5/\(nucR p V).st.length<=2000:=by
 unfold nucR
 split
 ·next h =>
  split
  ·exact ⟨by show 1<=5;omega,Nat.zero_le _⟩
  ·obtain ⟨_,h32,_,_,h5,_⟩:=fG h;have hb:=nU p V ((frN V []).length+1) [] 0;have h2:(frN V []).length<=V.length-2:=dh [] (V.length-2);have h3:((frN V []).length+1)*V.length<=32*32:=Nat.mul_le_mul (by omega) h32;simp only [List.length_nil] at hb;exact ⟨by omega,by omega⟩
 ·exact ⟨Nat.zero_le _,Nat.zero_le _⟩
set_option maxRecDepth 100000
open Go.RowKit
set_option maxHeartbeats 4000000 in
theorem ij {w:World} {a:Option Addr} {n cap:Nat} (h:dW w a n cap) (hn:n<=1048576) :
 Calls Tryz.prog 51 #[.slice a n cap] w fun e w'=>(∃ (x:Int) (b:Option Addr) (m c:Nat) (V:List Int),e=.returned (.agg #[.int .i64 x,.slice b m c])/\Ints w' b m c V/\m<=33)/\Ext w w':=by
 have HX:=ae (Ext.alloc w (.cells #[.int .i64 0,.slice none 0 0] 29));have HN:=ae (ob (h.ext HX.out) hn);have hrb:(w.alloc (.cells #[.int .i64 0,.slice none 0 0] 29)).heap[w.heap.size]?=some (.cells #[.int .i64 0,.slice none 0 0] 29 (0,0)):=heap_alloc_new _ _;have HRB:=ae hrb;clear h hrb;go_enter Tryz.func51,Tryz.ntmps51
 go_wp2_with fail;refine HN.out.mono ?_;rintro e w1 ⟨⟨cb,rfl,hcb,hc⟩,hx⟩;have HX1:=ae hx;have HC:=ae hc;rw [World.size_alloc] at hcb;have hs1:=hx.size;rw [World.size_alloc] at hs1;have HRB1:=ae ((hx.block _ (by simp)).trans HRB.out);clear hx hc;go_wp2_with fail;refine (s_l8Bent HC.out).mono ?_;rintro e w2 ⟨⟨x,b,m,c,V,rfl,ho,hm⟩,hc,hg⟩;have hb2:=(cH hg (by omega) (by omega)).trans HRB1.out;have r0:w2.cell? ⟨w.heap.size,0,none⟩=some (.int .i64 0):=by rw [cell_of_row w2 _ 0 _ _ _ hb2];rfl
 have r1:w2.cell? ⟨w.heap.size,1,none⟩=some (.slice none 0 0):=by rw [cell_of_row w2 _ 1 _ _ _ hb2];rfl
 have rf0:w2.frozen? ⟨w.heap.size,0,none⟩=false:=frozen_of_row w2 _ 0 _ _ hb2;have rf1:w2.frozen? ⟨w.heap.size,1,none⟩=false:=frozen_of_row w2 _ 1 _ _ hb2;have hX2:Ext w w2:=aq (HX.out.trans HX1.out) hg (fun k hk=>by have:=Option.some.inj hk;omega);have HX2:=ae hX2;have HW:=ae (hI (w:=w) hc hb2 (by intro y;simp) (by omega) (cL (some cb) hX2) (Nat.le_refl _) x (.slice b m c) (by intro y;simp));have HO:=ae (ho.keep (w':=(w2.setCell ⟨w.heap.size,0,none⟩ (.int .i64 x)).setCell ⟨w.heap.size,1,none⟩ (.slice b m c)) (fun k hk=>HW.out.2.2.1 k (by have:=(ho.lt k hk).1;omega)));have HZ0:=ae (show ((w2.setCell ⟨w.heap.size,0,none⟩ (.int .i64 x)).setCell ⟨w.heap.size,1,none⟩ (.slice b m c)).cell? ⟨w.heap.size,0,none⟩=some (.int .i64 x) by rw [cell_of_row _ _ 0 _ _ _ HW.out.2.2.2];rfl);have HZ1:=ae (show ((w2.setCell ⟨w.heap.size,0,none⟩ (.int .i64 x)).setCell ⟨w.heap.size,1,none⟩ (.slice b m c)).cell? ⟨w.heap.size,1,none⟩=some (.slice b m c) by rw [cell_of_row _ _ 1 _ _ _ HW.out.2.2.2];rfl);have HXF:=ae (show Ext w ((w2.setCell ⟨w.heap.size,0,none⟩ (.int .i64 x)).setCell ⟨w.heap.size,1,none⟩ (.slice b m c)) from (hX2.setCell (p:=⟨w.heap.size,0,none⟩) (Nat.le_refl _) _).setCell (p:=⟨w.heap.size,1,none⟩) (Nat.le_refl _) _);clear hc hg ho hb2 hX2;go_wp2_with fail
 refine bodyPost_ret (v:=.agg #[.int .i64 x,.slice b m c]) (by simp [results,Tryz.results51,go_sem,HZ0.out,HZ1.out]) rfl ⟨⟨x,b,m,c,V,rfl,HO.out.ints,by omega⟩,HXF.out⟩
set_option maxHeartbeats 8000000 in
theorem kC {w:World} {ra ra':Option Addr} {m rc rc':Nat} {ba ba':Option Addr} {mb bc bc':Nat} {t:Tb} {x:Int} (h:TbC w ra m rc ba mb bc t) (h':TbC w ra' m rc' ba' mb bc' t) :
 Calls Tryz.prog 57 #[tbW ra m rc ba mb bc x,tbW ra' m rc' ba' mb bc' x] w fun e w'=>e=.returned (.bool true)/\Ext w w':=by
 obtain ⟨W,hW⟩:∃ W,W=(w.alloc (bp ra m rc ba mb bc x)).alloc (bp ra' m rc' ba' mb bc' x):=⟨_,rfl⟩;have hx0:Ext w W:=by rw [hW];exact (Ext.alloc w (bp ra m rc ba mb bc x)).trans (Ext.alloc _ (bp ra' m rc' ba' mb bc' x))
 have HX0:=ae hx0;have H:=ae (h.ext hx0);have H':=ae (h'.ext hx0);have HTA:=ae (show W.heap[w.heap.size]?=some (.cells #[.slice ra m rc,.slice ba mb bc,.int .i64 x] 83 (0,0)) by rw [hW,bz _ _ _ (by simp)];exact aj _ _ _ rfl);have HTB:=ae (show W.heap[w.heap.size+1]?=some (.cells #[.slice ra' m rc',.slice ba' mb bc',.int .i64 x] 83 (0,0)) by rw [hW];exact aj _ _ _ (by simp));have h1:=h.rows.hcap;have h2:=h.rows.hmax;have h3:=h.basis.hcap;have h4:=h.basis.hmax;have h1':=h'.rows.hcap;have h2':=h'.rows.hmax;have h3':=h'.basis.hcap;have h4':=h'.basis.hmax;clear h h' hx0;have hxx:(x != x)=false:=by simp
 have hmm:((m:Int) != (m:Int))=false:=by simp
 have hbb:((mb:Int) != (mb:Int))=false:=by simp
 have p0:=al HTA.out;have p1:=am HTA.out;have p2:=ap HTA.out;have q0:=al HTB.out;have q1:=am HTB.out;have q2:=ap HTB.out;go_enter Tryz.func57,Tryz.ntmps57
 go_upto_region 1 with fail;rw [<-hW];clear hW;go_wp2_with fail
 go_loopg [5] m (fun gk ii wr=>∃ k:Nat,Hid (gk+k=m)/\ii=.int .i64 (k:Int)/\Hid (Ext W wr))
 case atStart=>exact ⟨0,ae (by omega),rfl,ae (Ext.refl _)⟩
 case round =>
  obtain ⟨g1,h_g1⟩:∃ x,x=gk:=⟨_,rfl⟩;subst h_g1;obtain ⟨wr1,h_wr1⟩:∃ x,x=wr:=⟨_,rfl⟩;subst h_wr1;obtain ⟨k,HK,rfl,HX⟩:=hrel;clear p0 p1 p2 q0 q1 q2;have p0:=al (HX.out.blk HTA.out);have p1:=am (HX.out.blk HTA.out);have q0:=al (HX.out.blk HTB.out);have q1:=am (HX.out.blk HTB.out);by_cases hlt:k<m
  ·obtain ⟨zb,zoff,ya,yn,yc,hza,hz0,hrow⟩:=(H.out.ext HX.out).rows.at hlt;subst hza;obtain ⟨zb',zoff',ya',yn',yc',hza',hz0',hrow'⟩:=(H'.out.ext HX.out).rows.at hlt;subst hza';have HRW:=ae hrow;have HRW':=ae hrow';have hk0:(0:Int)<=(k:Int):=by omega
   have hk1:(k:Int)<(m:Int):=by omega
   clear hrow hrow';go_upto_region 6 with fail;have hk2:Ext wr1 wr1.drew:=Ext.drew wr1;have HKEEP:=ae (fun (w':World) (h:Ext wr1 w')=>(⟨h.cellSome p0,h.cellSome q0,h.cellSome hz0,h.cellSome hz0',h⟩:w'.cell? ⟨w.heap.size,0,none⟩=some (.slice (some ⟨zb,zoff,none⟩) m rc)/\w'.cell? ⟨w.heap.size+1,0,none⟩=some (.slice (some ⟨zb',zoff',none⟩) m rc')/\w'.cell? ⟨zb,zoff+k,none⟩=some (.slice ya yn yc)/\w'.cell? ⟨zb',zoff'+k,none⟩=some (.slice ya' yn' yc')/\Ext wr1 w'));refine wp_region_held_drew (S:=(fun w'=>w'.cell? ⟨w.heap.size,0,none⟩=some (.slice (some ⟨zb,zoff,none⟩) m rc)/\w'.cell? ⟨w.heap.size+1,0,none⟩=some (.slice (some ⟨zb',zoff',none⟩) m rc')/\w'.cell? ⟨zb,zoff+k,none⟩=some (.slice ya yn yc)/\w'.cell? ⟨zb',zoff'+k,none⟩=some (.slice ya' yn' yc')/\Ext wr1 w')) (by kernel_rfl) ?_ (fun hHeld=>?_)
   ·exact HKEEP.out _ hk2
   refine tk 0 ?_;refine tk 1 ?_;refine tk 2 ?_;refine tk 3 ?_;refine tk 4 ?_;refine tk 5 ?_;refine tk 6 ?_;refine tk 7 ?_;refine tk 8 ?_;refine tk 9 ?_;refine rd (i:=10) (h:=fun K hK=>?_);go_simp
   (go_at_call 35;refine (ig (HRW.out.ext hk2) (HRW'.out.ext hk2)).mono ?_;rintro e w3 ⟨rfl,hx3⟩;have hk2:=hk2.trans hx3.ext)
   go_wp2_with fail;refine hK.out _ _ ?_ (fun hHeld=>?_)
   ·exact HKEEP.out _ hk2
   clear hK K
   try simp only [Act.put,sA,sB,sC]
   refine tk 11 ?_;refine wpAnyH_done (by kernel_rfl) ?_ _;have HX2:=ae (HX.out.trans hk2);clear p0 p1 q0 q1 hz0 hz0';go_wp2_with fail
   go_roundg (g1-1)
   case measure=>have:=HK.out;omega
   case rel=>exact ⟨k+1,ae (by have:=HK.out;omega),by go_num,HX2⟩
  ·have hkm:m=k:=by have:=HK.out;omega
   subst hkm;go_wp2_with fail
   go_loopg [6] mb (fun gk ii wr=>∃ k:Nat,Hid (gk+k=mb)/\ii=.int .i64 (k:Int)/\Hid (Ext W wr))
   case atStart=>exact ⟨0,ae (by omega),rfl,HX⟩
   case round =>
    obtain ⟨g2,h_g2⟩:∃ x,x=gk:=⟨_,rfl⟩;subst h_g2;obtain ⟨wr2,h_wr2⟩:∃ x,x=wr:=⟨_,rfl⟩;subst h_wr2;obtain ⟨k2,HK2,rfl,HX2⟩:=hrel;clear p0 p1 q0 q1;have p1:=am (HX2.out.blk HTA.out);have q1:=am (HX2.out.blk HTB.out);by_cases hlt2:k2<mb
    ·obtain ⟨eb,eoff,hea,he0⟩:=(H.out.ext HX2.out).basis.at hlt2;subst hea;obtain ⟨eb',eoff',hea',he0'⟩:=(H'.out.ext HX2.out).basis.at hlt2;subst hea';obtain ⟨bk,hbk⟩:∃ x,x=t.basis[k2]?.getD 0:=⟨_,rfl⟩;rw [<-hbk] at he0 he0';have hbb2:(bk != bk)=false:=by simp
     have hk0:(0:Int)<=(k2:Int):=by omega
     have hk1:(k2:Int)<(mb:Int):=by omega
     clear hbk;go_upto_region 11 with fail;have hk2:Ext wr2 wr2.drew:=Ext.drew wr2;have HKEEP:=ae (fun (w':World) (h:Ext wr2 w')=>(⟨h.cellSome p1,h.cellSome q1,h.cellSome he0,h.cellSome he0',h⟩:w'.cell? ⟨w.heap.size,1,none⟩=some (.slice (some ⟨eb,eoff,none⟩) mb bc)/\w'.cell? ⟨w.heap.size+1,1,none⟩=some (.slice (some ⟨eb',eoff',none⟩) mb bc')/\w'.cell? ⟨eb,eoff+k2,none⟩=some (.int .i64 bk)/\w'.cell? ⟨eb',eoff'+k2,none⟩=some (.int .i64 bk)/\Ext wr2 w'));refine wp_region_held_drew (S:=(fun w'=>w'.cell? ⟨w.heap.size,1,none⟩=some (.slice (some ⟨eb,eoff,none⟩) mb bc)/\w'.cell? ⟨w.heap.size+1,1,none⟩=some (.slice (some ⟨eb',eoff',none⟩) mb bc')/\w'.cell? ⟨eb,eoff+k2,none⟩=some (.int .i64 bk)/\w'.cell? ⟨eb',eoff'+k2,none⟩=some (.int .i64 bk)/\Ext wr2 w')) (by kernel_rfl) ?_ (fun hHeld=>?_)
     ·exact HKEEP.out _ hk2
     refine tk 0 ?_;refine tk 1 ?_;refine tk 2 ?_;refine tk 3 ?_;refine tk 4 ?_;refine tk 5 ?_;refine tk 6 ?_;refine tk 7 ?_;refine tk 8 ?_;refine tk 9 ?_;refine tk 10 ?_;refine wpAnyH_done (by kernel_rfl) ?_ _;have HX3:=ae (HX2.out.trans hk2);clear p1 q1 he0 he0';go_wp2_with fail
     go_roundg (g2-1)
     case measure=>have:=HK2.out;omega
     case rel=>exact ⟨k2+1,ae (by have:=HK2.out;omega),by go_num,HX3⟩
    ·have hkm2:mb=k2:=by have:=HK2.out;omega
     subst hkm2;go_wp2_with fail;go_ret;exact ⟨rfl,HX0.out.trans HX2.out⟩
end Go.Proofs.YthjjfkeacobikaaGreat
