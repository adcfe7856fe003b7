import Derived.Test.YthjjfkeacobikaaGreatPuAllG15
import Derived.Outline
import Derived.Deep.CutBlock
set_option linter.unusedVariables false
set_option linter.unusedSimpArgs false
namespace Go.Proofs.YthjjfkeacobikaaGreat
set_option maxRecDepth 100000
open Go.RowKit
theorem lbox {w:World} {g:Nat} {a b c d e f h:Value} {t:TypeId} (hb:w.heap[g]?=some (.cells #[a,b,c,d,e,f,h] t (0,0))) :
 w.cell? ⟨g,0,none⟩=some a/\w.cell? ⟨g,1,none⟩=some b/\w.cell? ⟨g,2,none⟩=some c/\w.cell? ⟨g,3,none⟩=some d/\w.cell? ⟨g,4,none⟩=some e/\w.cell? ⟨g,5,none⟩=some f/\w.cell? ⟨g,6,none⟩=some h/\∀ k,w.frozen? ⟨g,k,none⟩=false:=by
 refine ⟨?_,?_,?_,?_,?_,?_,?_,fun k=>frozen_of_row w g k _ _ hb⟩ <;> rw [cell_of_row w g _ _ _ _ hb] <;> rfl
theorem Ext.set7 {w w':World} (h:Ext w w') {b:Nat} (hb:w.heap.size<=b) (x0 x1 x2 x3 x4 x5 x6:Value) :
 Ext w (((((((w'.setCell ⟨b,0,none⟩ x0).setCell ⟨b,1,none⟩ x1).setCell ⟨b,2,none⟩ x2).setCell ⟨b,3,none⟩ x3).setCell ⟨b,4,none⟩ x4).setCell ⟨b,5,none⟩ x5).setCell ⟨b,6,none⟩ x6) :=
 ((((((h.setCell (p:=⟨b,0,none⟩) hb _).setCell (p:=⟨b,1,none⟩) hb _).setCell (p:=⟨b,2,none⟩) hb _).setCell (p:=⟨b,3,none⟩) hb _).setCell (p:=⟨b,4,none⟩) hb _).setCell (p:=⟨b,5,none⟩) hb _).setCell (p:=⟨b,6,none⟩) hb _
theorem bF (w':World) {b k:Nat} (h:k ≠ b) (x0 x1 x2 x3 x4 x5 x6:Value) :
 (((((((w'.setCell ⟨b,0,none⟩ x0).setCell ⟨b,1,none⟩ x1).setCell ⟨b,2,none⟩ x2).setCell ⟨b,3,none⟩ x3).setCell ⟨b,4,none⟩ x4).setCell ⟨b,5,none⟩ x5).setCell ⟨b,6,none⟩ x6).heap[k]?=w'.heap[k]?:=by
 rw [heap_setCell_other _ _ _ _ h,heap_setCell_other _ _ _ _ h,heap_setCell_other _ _ _ _ h,heap_setCell_other _ _ _ _ h,heap_setCell_other _ _ _ _ h,heap_setCell_other _ _ _ _ h,heap_setCell_other _ _ _ _ h]
structure LrO (w:World) (base g:Nat) (s:Int) (vx vy vr:Value) (p q piv:Int) (Y:List (Int × Int)):Prop where
 box:w.heap[g]?=some (.cells #[.int .i64 s,vx,vy,vr,.int .i64 p,.int .i64 q,.int .i64 piv] 113 (0,0))
 hg:base<=g
 y:OwnR w base vy Y
section
variable {w:World} {base g:Nat} {s:Int} {vx vy vr:Value} {p q piv:Int} {Y:List (Int × Int)}
theorem LrO.ext {w':World} (h:LrO w base g s vx vy vr p q piv Y) (hx:Ext w w'):LrO w' base g s vx vy vr p q piv Y:=⟨(hx.block _ (lt_of_block h.box)).trans h.box,h.hg,h.y.ext hx⟩
theorem LrO.boxY {w1 w2:World} (h:LrO w base g s vx vy vr p q piv Y) (hx:Ext w w1) (hg:w1.grownBy w2 vy.ownBlock):w2.heap[g]?=some (.cells #[.int .i64 s,vx,vy,vr,.int .i64 p,.int .i64 q,.int .i64 piv] 113 (0,0)) :=
 (hg.block g (lt_of_block (h.ext hx).box) (an (h.ext hx).y (h.ext hx).box (by decide))).trans (h.ext hx).box
theorem LrO.pushY {w1 w2:World} (h:LrO w base g s vx vy vr p q piv Y) (hx:Ext w w1) {vy':Value} {Y':List (Int × Int)} (hgr:w1.grownBy w2 vy.ownBlock) (ho:OwnR w2 base vy' Y') :
 LrO (w2.setCell ⟨g,2,none⟩ vy') base g s vx vy' vr p q piv Y':=by
 have hbox:=h.boxY hx hgr;refine ⟨?_,h.hg,dz ho hbox (by decide)⟩;have:=heap_setCell_same w2 g 2 _ _ vy' hbox;exact this
end
theorem dualF_eq (B:List Int) (cs:List (Int × Int)) {n i z:Nat} {e d:Int × Int} {dok:Bool} {bi:Int} (hz:z=n+i) (he:cs[z]?.getD (0,0)=e) (hd:subR (1,1) e=(d,dok)) (hb:B[i]?.getD 0=bi):el B (1,1) cs n i=if dok=true then some (sgnR bi d) else none:=by
 unfold el;rw [<-hz,he,hd,hb]
def SolR (w:World) (base:Nat) (e:Ending) (o:Option LpR):Prop:=match o with
 | some r=>∃ xa xn xc ya yn yc ra rn rc,e=.returned (.tuple #[lrW r xa xn xc ya yn yc ra rn rc,.bool true])/\LrOw w base xa xn xc ya yn yc ra rn rc r
 | none=>∃ r xa xn xc ya yn yc ra rn rc,e=.returned (.tuple #[lrW r xa xn xc ya yn yc ra rn rc,.bool false])
section
variable {w:World} {a:Option Addr} {na ca:Nat} {b:Option Addr} {nb cb:Nat} {c:Option Addr} {nc cc:Nat} {A:List (List Int)} {B:List Int} {C:List (Int × Int)}
set_option maxHeartbeats 16000000 in
theorem i_solve (h:LpC w a na ca b nb cb c nc cc A B C) (ok:okLP A B C=true) :
 Calls Tryz.prog 198 #[lpW a na ca b nb cb c nc cc] w fun e w'=>SolR w' w.heap.size e (rawT A B C)/\Ext w w':=by
 have TI:=ae (eF ok);obtain ⟨r1,r2,r3,r4,r5,r6⟩:=cg h ok;subst r3;have hx0:=(Ext.alloc w (bm a nb ca b nb cb c nc cc)).trans (Ext.alloc _ (.cells #[.int .i64 0,.slice none 0 0,.slice none 0 0,.slice none 0 0,.int .i64 0,.int .i64 0,.int .i64 0] 113));obtain ⟨W,hW⟩:∃ W,W=(w.alloc (bm a nb ca b nb cb c nc cc)).alloc (.cells #[.int .i64 0,.slice none 0 0,.slice none 0 0,.slice none 0 0,.int .i64 0,.int .i64 0,.int .i64 0] 113):=⟨_,rfl⟩;rw [<-hW] at hx0;have HX0:=ae hx0;have H:=ae (h.ext hx0);have HOK:=ae ok;have HGB:=ae (show W.heap[w.heap.size+1]?=some (.cells #[.int .i64 0,.slice none 0 0,.slice none 0 0,.slice none 0 0,.int .i64 0,.int .i64 0,.int .i64 0] 113 (0,0)) by rw [hW];exact aj _ _ _ (by simp));have HTB:=ae (show W.heap[w.heap.size]?=some (.cells #[.slice a nb ca,.slice b nb cb,.slice c nc cc] 109 (0,0)) by rw [hW,bz _ _ _ (by simp)];exact aj _ _ _ rfl);have HSW:=ae (show W.heap.size=w.heap.size+1+1 by rw [hW];simp);have ha1:=h.a.hcap;have ha2:=h.a.hmax;have hb1:=h.b.hcap;have hb2:=h.b.hmax;have hc1:=h.c.hcap;have hc2:=h.c.hmax;have HLA:=ae h.a.hlen;have HLB:=ae h.b.hlen;have HLC:=ae h.c.hlen;clear h hx0 ok r4 r5 r6;have HST:=ae (fun (w':World) (hx:Ext W w')=>ks (H.out.ext hx) HOK.out);go_enter Tryz.func198,Tryz.ntmps198
 go_upto_region 1 with fail;rw [<-hW];clear hW;have p1:=am HTB.out;have p2:=ap HTB.out;have hk2:Ext W W.drew:=Ext.drew W;have hk2:Ext W W.drew:=Ext.drew W;have hka:=hk2;have HKEEP:=ae (fun (w':World) (h:Ext W w')=>(⟨h.cellSome p1,h.cellSome p2,h⟩:w'.cell? ⟨w.heap.size,1,none⟩=some (.slice b nb cb)/\w'.cell? ⟨w.heap.size,2,none⟩=some (.slice c nc cc)/\Ext W w'))
 go_region_held3 (fun w'=>w'.cell? ⟨w.heap.size,1,none⟩=some (.slice b nb cb)/\w'.cell? ⟨w.heap.size,2,none⟩=some (.slice c nc cc)/\Ext W w')
  (with_reducible exact HKEEP.out _ hk2)
  (first
    | fail)
 clear HKEEP hka;have X1:=ae hk2;clear hk2 p1 p2;have p0:=al (X1.out.blk HTB.out);have p1:=am (X1.out.blk HTB.out);have p2:=ap (X1.out.blk HTB.out);go_wp2_with fail;refine (HST.out _ X1.out).mono ?_;rintro e w1 ⟨⟨va,vb,vs,rfl,ho⟩,hx⟩;obtain ⟨a7,n7,c7,rfl,HN7⟩:=ho.a.var;obtain ⟨a8,n8,c8,rfl,HN8⟩:=ho.b.var;obtain ⟨E,hE⟩:∃ E,E=w1.alloc (.cells #[.slice a7 n7 c7,.slice a8 n8 c8,.int .i64 (nc:Int),.int .i64 0,.bool false] 215):=⟨_,rfl⟩;have hxE:Ext w1 E:=by rw [hE];exact Ext.alloc _ _
 have XW1:=ae (X1.out.trans hx);have XE:=ae hxE
 have HS:=ae (show cY E w1.heap.size a7 n7 c7 a8 n8 c8 vs (bC A B nc) 0 false from
  ⟨by rw [hE];exact aj _ _ _ rfl,(ho.ext hxE).mono (Nat.zero_le _)⟩)
 have hmk:=gN nc (by omega)
 have HZ:=ae (show OwnI (E.alloc (.cells (aW (List.replicate nc 0)) 3)) 0 (.slice (some ⟨E.heap.size,0,none⟩) nc nc) (List.replicate nc 0) from
  (show Row (E.alloc (.cells (aW (List.replicate nc 0)) 3)) E.heap.size 3 (List.replicate nc 0) from heap_alloc_new _ _).own (Nat.zero_le _) (by simp) (by omega))
 obtain ⟨F,hF⟩:∃ F,F=E.alloc (.cells (aW (List.replicate nc 0)) 3):=⟨_,rfl⟩;have XF:=ae (show Ext E F by rw [hF];exact Ext.alloc _ _);rw [<-hF] at HZ;clear ho hx hxE p0 p1 p2;go_upto_region 3 with fail;rw [<-hE];clear hE;go_upto_region 4 with fail;rw [<-hF];clear hF hmk
 have HZR:=ae (show dC (List.replicate nc 0)=List.replicate nc ((0:Int),(1:Int)) by
  rw [eD (by intro x hx;rw [List.mem_replicate] at hx;omega)];simp [aw])
 have HRT:=ae (fO HZ.out.ints (by omega));rw [HZR.out] at HRT;go_wp2_with fail;refine HRT.out.mono ?_;rintro e w3 ⟨⟨v3,rfl,ho3⟩,hx⟩;obtain ⟨a3,n3,c3,rfl,HN3⟩:=ho3.var;have hn3:n3<=70:=by have:=HN3.out;rw [List.length_replicate] at this;omega
 have X3:=ae (XF.out.trans hx);have HZ3:=ae (HZ.out.ext hx);have HCO:=ae (kV ho3.rats 1 nb (by omega) (by omega));clear ho3 hx HN3;go_wp2_with fail;refine HCO.out.mono ?_;rintro e w4 ⟨⟨v4,rfl,ho4⟩,hx⟩;obtain ⟨a4,n4,c4,rfl,HN4⟩:=ho4.var;have X4:=ae (X3.out.trans hx);have HZ4:=ae (HZ3.out.ext hx);have HS4:=ae (HS.out.ext X4.out);have HRUN:=ae (i_run HS4.out (show TInv nc nb _ (bC A B nc) by have h1:=TI.out;rw [HLC.out,HLA.out] at h1;exact h1) (by omega) (by omega) (by omega) ho4);have HC1:=ae (show List.replicate nc ((0:Int),(1:Int))++List.replicate nb (1,1)=dm C.length B.length by unfold dm;rw [HLC.out,HLB.out]);clear ho4 hx HN4;go_wp2_with fail;refine HRUN.out.mono ?_;rintro e w5 ⟨hm5,ra5,rn5,rc5,ba5,bn5,bc5,vs5,hp5⟩;obtain ⟨o1,ho1⟩:∃ o,o=aO (dm C.length B.length) 1000 (bC A B C.length):=⟨_,rfl⟩;have hpe:aO (List.replicate nc ((0:Int),(1:Int))++List.replicate nb (1,1)) (1000-0) (bC A B nc)=o1:=by rw [ho1,HC1.out,HLC.out]
 rw [hpe] at hp5;have HO1:=ae ho1;have HZ5:=ae (HZ4.out.mod hm5 HS4.out.box);have X5:=ae (show Ext w1 w5 from hm5.ext (XE.out.trans X4.out) (Nat.le_refl _));clear hpe ho1;cases o1 with
 | none =>
   obtain ⟨v5,col5,t5,n5,rfl,hs5⟩:=hp5;have HS5:=ae hs5;clear hs5 hm5;obtain ⟨c0,c1,c2,c3',c4',cf⟩:=HS5.out.cells;have HNO:=ae (show rawT A B C=none by unfold rawT;rw [<-HO1.out];rfl);have XW5:=ae ((XW1.out).trans X5.out);obtain ⟨l0,l1,l2,l3,l4,l5,l6,lf⟩:=lbox (XW5.out.blk HGB.out);go_wp2_with fail;refine bodyPost_ret (v:=.tuple #[lrW (aL 0) none 0 0 none 0 0 none 0 0,.bool false]) (by simp [results,Tryz.results198,go_sem,l0,l1,l2,l3,l4,l5,l6,lf,aL]) rfl ⟨?_,(HX0.out.trans XW5.out).set7 (Nat.le_succ _) _ _ _ _ _ _ _⟩;rw [HNO.out];exact ⟨aL 0,none,0,0,none,0,0,none,0,0,rfl⟩
 | some q1 =>
   obtain ⟨v5,rfl,ho5,hs5⟩:=hp5;obtain ⟨a5,n5,c5,rfl,HN5⟩:=ho5.var;have HS5:=ae hs5;have HO5:=ae ho5;have hinv:=dg TI.out HO1.out.symm;have HQT:=ae (show TInv nc nb _ q1.t by have h1:=hinv.1;rw [HLC.out,HLA.out] at h1;exact h1);have HQC:=ae (dE HQT.out hinv.2.1).1;have hql:=hinv.2.2;clear hs5 ho5 hm5 hinv;obtain ⟨u,hu⟩:∃ u,u=nc+nb:=⟨_,rfl⟩;have HU:=ae hu;obtain rfl:n5=u+1:=by have h1:=HN5.out;rw [HQC.out.1] at h1;omega
   have hu78:u<=78:=by omega
   have hlen1:((u+1:Nat):Int)-1=(u:Int):=by omega
   obtain ⟨zb,zoff,lx,ly,hza,hlv,hz0,hz1⟩:=HO5.out.rats.at (show u<u+1 by omega);subst hza;have hr5a:=HO5.out.rats.hcap;have hr5b:=HO5.out.rats.hmax;have HLV:=ae (show q1.costs[C.length+B.length]?.getD (0,0)=(lx,ly) by rw [HLC.out,HLB.out,<-HU.out];exact hlv);obtain ⟨c0,c1,c2,c3',c4',cf⟩:=HS5.out.cells;have XW5:=ae ((XW1.out).trans X5.out);clear hlv hu;by_cases hneg:lx<0
   ·have HRAW:=ae (show rawT A B C=(runT (el B (1,1) q1.costs C.length) B.length).map fun Y=>⟨2,[],Y,[],(0,0),1000-q1.left⟩ by
     unfold rawT;rw [<-HO1.out];simp only [Option.bind_some];rw [HLV.out,if_pos hneg])
    obtain ⟨pv,hpv⟩:∃ p:Int,p=((1000-q1.left:Nat):Int):=⟨_,rfl⟩;rw [<-hpv] at c3';have HPVV:=ae (show (1000:Int)-(q1.left:Int)=pv by rw [hpv];omega);clear hpv;obtain ⟨E9,hE9⟩:∃ E9,E9=w5.alloc (.cells #[.int .i64 2,.slice none 0 0,.slice none 0 0,.slice none 0 0,.int .i64 0,.int .i64 0,.int .i64 pv] 113):=⟨_,rfl⟩;have X9:=ae (show Ext w5 E9 by rw [hE9];exact Ext.alloc _ _)
    have HL0:=ae (show LrO E9 w5.heap.size w5.heap.size 2 (.slice none 0 0) (.slice none 0 0) (.slice none 0 0) 0 0 pv [] by
     rw [hE9];exact ⟨aj _ _ _ rfl,Nat.le_refl _,OwnR.nil _ _⟩)
    go_upto_region 9 with fail;rw [<-hE9];clear hE9 c0 c1 c2 c3' c4' cf hz0 hz1;go_wp2_with fail
    go_loopg [64] nb (fun gk ii wr=>∃ (k:Nat) (vy:Value) (Y:List (Int × Int)),Hid (gk+k=nb)/\ii=.int .i64 (k:Int)/\Hid (runT (el B (1,1) q1.costs C.length) k=some Y)/\Hid (LrO wr w5.heap.size w5.heap.size 2 (.slice none 0 0) vy (.slice none 0 0) 0 0 pv Y)/\Hid (Ext w5 wr))
    case atStart=>exact ⟨0,_,[],ae (by omega),rfl,ae rfl,HL0,X9⟩
    case round =>
     obtain ⟨g1,h_g1⟩:∃ x,x=gk:=⟨_,rfl⟩;subst h_g1;obtain ⟨wr1,h_wr1⟩:∃ x,x=wr:=⟨_,rfl⟩;subst h_wr1;obtain ⟨k,vy,Y,HK,rfl,HY,HL,HX⟩:=hrel;have hsr:=HX.out.size;have XWR:=ae (XW5.out.trans HX.out);by_cases hlt:k<nb
     ·obtain ⟨z,hz⟩:∃ z,z=nc+k:=⟨_,rfl⟩;have hzu:z<u+1:=by have:=HU.out;omega
      obtain ⟨zb',zoff',ex,ey,hza',hev,he0,he1⟩:=(HO5.out.ext HX.out).rats.at hzu;simp only [Option.some.injEq,Addr.mk.injEq,and_true] at hza';obtain ⟨rfl,rfl⟩:=hza';obtain ⟨d1,d2,dok,hdd⟩:∃ x y ok,subR (1,1) (ex,ey)=((x,y),ok):=⟨_,_,_,rfl⟩;have HDD:=ae hdd;obtain ⟨bb,boff,hba,hb0⟩:=(H.out.ext XWR.out).b.at hlt;subst hba;obtain ⟨bi,hbi⟩:∃ x,x=B[k]?.getD 0:=⟨_,rfl⟩;rw [<-hbi] at hb0;have HBI:=ae hbi;have HDF:=ae (show el B (1,1) q1.costs C.length k=if dok=true then some (sgnR bi (d1,d2)) else none from dualF_eq B q1.costs (by rw [HLC.out];exact hz) hev hdd hbi.symm);have p1:=am (XWR.out.blk HTB.out);have hwr:IntKind.i64.wrap ((nc:Int)+(k:Int))=(z:Int):=by rw [IntKind.wrap_i64];omega
      have hz0':(0:Int)<=(z:Int):=by omega
      have hz1':(z:Int)<((u+1:Nat):Int):=by omega
      have hz2':(z:Int)<(u:Int)+1:=by omega
      clear hev hdd hbi hz;go_upto_region 12 with fail;go_upto_region 12 with fail
      go_cut [12,13] (fun sx so wx=>∃ g:Nat,sx=.pointer (some ⟨g,0,none⟩)/\so=.bool dok/\Hid (ah wr1 wx g d1 d2))
      case first =>
       have hk2:Ext wr1 wr1.drew:=Ext.drew wr1;have hka:Ext wr1 (wr1.alloc (.cells #[.int .i64 0,.int .i64 0] 43)).drew:=(Ext.alloc _ _).trans (Ext.drew _);have HKEEP:=ae (fun (w':World) (h:Ext wr1 w')=>(⟨h.cellSome he0,h.cellSome he1,h⟩:w'.cell? ⟨zb,zoff+z*2,none⟩=some (.int .i64 ex)/\w'.cell? ⟨zb,zoff+z*2+1,none⟩=some (.int .i64 ey)/\Ext wr1 w'))
       go_region_held3 (fun w'=>w'.cell? ⟨zb,zoff+z*2,none⟩=some (.int .i64 ex)/\w'.cell? ⟨zb,zoff+z*2+1,none⟩=some (.int .i64 ey)/\Ext wr1 w')
        (first
          | with_reducible exact HKEEP.out _ hk2
          | with_reducible exact HKEEP.out _ hka
          | with_reducible exact HKEEP.out _ ((hk2.setCell (by first|(simp;done)|(simp;omega)) _).setCell (by first|(simp;done)|(simp;omega)) _)
          | with_reducible exact HKEEP.out _ (hk2.trans (Ext.alloc _ _))
          | with_reducible exact HKEEP.out _ (hBB.put _ _).ext)
        (first
          | (go_at_call 112
             (with_reducible refine (cz 1 _).mono ?_)
             rintro e w7 ⟨rfl,hx_w7⟩
             first|(with_reducible have hBB:=ah.grow hBB hx_w7)|(with_reducible have hBB:=ah.firstD hx_w7)|(with_reducible have hBB:=ah.laterD hk2 hx_w7)|skip
             first|(have b0_:=hBB.c0;have b1_:=hBB.c1;have fb_:=hBB.free)|skip
             have hk2:Ext wr1 w7:=by first|with_reducible exact hk2.trans hx_w7|with_reducible exact hka.trans hx_w7|with_reducible exact (hk2.trans (Ext.alloc _ _)).trans hx_w7
             have hk2s:=hk2.size)
          | (go_at_call 177
             (with_reducible refine (je 1 1 ex ey _).mono ?_)
             rw [HDD.out];rintro e w8 ⟨rfl,hx_w8⟩
             first|(with_reducible have hBB:=ah.grow hBB hx_w8)|(with_reducible have hBB:=ah.firstD hx_w8)|(with_reducible have hBB:=ah.laterD hk2 hx_w8)|skip
             first|(have b0_:=hBB.c0;have b1_:=hBB.c1;have fb_:=hBB.free)|skip
             have hk2:Ext wr1 w8:=by first|with_reducible exact hk2.trans hx_w8|with_reducible exact hka.trans hx_w8|with_reducible exact (hk2.trans (Ext.alloc _ _)).trans hx_w8
             have hk2s:=hk2.size)
          | fail)
       all_goals (go_wp2_with fail;go_meet;first|exact ⟨_,rfl,rfl,ae (hBB.put _ _)⟩|exact ⟨_,rfl,rfl,ae (ah.new hk2 _ _)⟩|exact ⟨_,rfl,rfl,ae (ah.new' hk2 _ _ (by simp))⟩)
      obtain ⟨g,rfl,rfl,HB1⟩:=hcut;have XWC:=ae (XWR.out.trans HB1.out.ext);clear hwr hz0' hz1' hz2' he0 he1 p1 hb0;cases dok
      ·have HNO:=ae (show runT (el B (1,1) q1.costs C.length) B.length=none from fh HY.out (by rw [HDF.out];rfl) (by rw [HLB.out];exact hlt));obtain ⟨l0,l1,l2,l3,l4,l5,l6,lf⟩:=lbox (XWC.out.blk HGB.out);go_wp2_with fail;refine bodyPost_ret (v:=.tuple #[lrW (aL 0) none 0 0 none 0 0 none 0 0,.bool false]) (by simp [results,Tryz.results198,go_sem,l0,l1,l2,l3,l4,l5,l6,lf,aL]) rfl ⟨?_,(HX0.out.trans XWC.out).set7 (Nat.le_succ _) _ _ _ _ _ _ _⟩;rw [HRAW.out,HNO.out];exact ⟨aL 0,none,0,0,none,0,0,none,0,0,rfl⟩
      ·have p1:=am (XWC.out.blk HTB.out);obtain ⟨bb',boff',hba',hb0⟩:=(H.out.ext XWC.out).b.at hlt;simp only [Option.some.injEq,Addr.mk.injEq,and_true] at hba';obtain ⟨rfl,rfl⟩:=hba';rw [<-HBI.out] at hb0;have HL2:=ae (HL.out.ext HB1.out.ext);have HX2:=ae (HX.out.trans HB1.out.ext);have HY2:=ae (dI (x:=sgnR bi (d1,d2)) HY.out (by rw [HDF.out];rfl));obtain ⟨e1,hsg⟩:∃ e1,sgnR bi (d1,d2)=(e1,d2):=by unfold sgnR negR;split <;> exact ⟨_,rfl⟩
       have HSG:=ae hsg;have hdb:=bh (p:=(d1,d2)) (by have h1:=(kI (a:=(1,1)) (b:=(ex,ey)) (by rw [HDD.out])).2.2.1;rw [HDD.out] at h1;exact h1);have hd0:-9223372036854775807<=d1:=by have:=hdb.2.2.1;simp only at this;omega
       have hd1:d1<=9223372036854775807:=by have:=hdb.2.2.2;simp only at this;omega
       clear hsg hdb
       go_upto_if 86 with fail
       go_cut [6] (fun s6 wx=>s6=.pointer (some ⟨w1.heap.size,0,none⟩)/\Hid (ah wr1 wx g e1 d2))
       case first =>
        have g0:=HB1.out.c0;have g1':=HB1.out.c1;have gf:=HB1.out.free;by_cases hbn:bi<0
        ·have he1:e1=-d1:=by have:=HSG.out;unfold sgnR negR at this;rw [if_pos hbn] at this;exact (congrArg Prod.fst this).symm
         subst he1;rw [show decide (bi<0)=true from decide_eq_true hbn];go_wp2_with fail;refine (dM d1 d2 _ hd0 hd1).mono ?_;rintro e w9 ⟨rfl,hx⟩;have HB2:=ae (HB1.out.grow hx);clear hx g0 g1' gf;have g0:=HB2.out.c0;have g1':=HB2.out.c1;have gf:=HB2.out.free;go_wp2_with fail;go_meet;exact ⟨rfl,ae (HB2.out.put _ _)⟩
        ·have he1:e1=d1:=by have:=HSG.out;unfold sgnR at this;rw [if_neg (by omega)] at this;exact (congrArg Prod.fst this).symm
         subst he1;rw [show decide (bi<0)=false from decide_eq_false (by omega)];go_wp2_with fail;go_meet;exact ⟨rfl,HB1⟩
       obtain ⟨rfl,HB3⟩:=hcut;have HLC3:=ae (HL.out.ext HB3.out.ext);have HX3:=ae (HX.out.trans HB3.out.ext);have g0:=HB3.out.c0;have g1':=HB3.out.c1;have y2:=(lbox HLC3.out.box).2.2.1;have hgl:=HB3.out.lt;have hlb:=lt_of_block HLC3.out.box;have hs3:=HX3.out.size;have HYL:=ae (cW HY.out);clear p1 hb0
       go_wp2_with (first
        | (at_builtin;refine aJ rfl _ _ rfl w5.heap.size vy _ rfl (HLC3.out.y.ext (Ext.alloc _ _)) _ 1 _ [(e1,d2)] rfl (Rats.one' _ _ _ _ _ (by simp)) (by rw [HYL.out];omega) (by simp;omega) ?_;intro v9 w9 ho hg hnear;obtain ⟨a9,n9,q9,rfl,HN9⟩:=ho.var;have HO9:=ae ho;have HG9:=ae hg;have hbx:=HLC3.out.boxY (Ext.alloc _ _) hg;have c09:=(lbox hbx).2.2.1;have cf9:=(lbox hbx).2.2.2.2.2.2.2;have hX9:Ext w5 w9:=aq (Ext.trans HX3.out (Ext.alloc _ _)) hg (fun j hj=>(HLC3.out.y.lt j hj).1);clear ho hg hnear hbx))
       have HL9:=ae (HLC3.out.pushY (Ext.alloc _ _) HG9.out HO9.out);have HXN:=ae (hX9.setCell (p:=⟨w5.heap.size,2,none⟩) (Nat.le_refl _) (.slice a9 n9 q9))
       go_roundg (g1-1)
       case measure=>have:=HK.out;omega
       case rel=>exact ⟨k+1,_,_,ae (by have:=HK.out;omega),by go_num,HY2,ae (by rw [HSG.out];exact HL9.out),HXN⟩
     ·have hkn:nb=k:=by have:=HK.out;omega
      subst hkn;obtain ⟨ay,ny,cy,rfl,HNY⟩:=HL.out.y.var;obtain ⟨m0,m1,m2,m3,m4,m5,m6,mf⟩:=lbox HL.out.box;obtain ⟨l0,l1,l2,l3,l4,l5,l6,lf⟩:=lbox (XWR.out.blk HGB.out);have HRES:=ae (show rawT A B C=some ⟨2,[],Y,[],(0,0),pv⟩ by rw [HRAW.out,HLB.out,HY.out,Option.map_some,HPVV.out]);have hm1:=lt_of_block HL.out.box;go_wp2_with fail;refine bodyPost_ret (v:=.tuple #[lrW ⟨2,[],Y,[],(0,0),pv⟩ none 0 0 ay ny cy none 0 0,.bool true]) (by simp [results,Tryz.results198,go_sem,l0,l1,l2,l3,l4,l5,l6,lf]) rfl ⟨?_,(HX0.out.trans XWR.out).set7 (Nat.le_succ _) _ _ _ _ _ _ _⟩;rw [HRES.out];refine ⟨none,0,0,ay,ny,cy,none,0,0,rfl,?_,?_,?_⟩
      ·exact fun W _=>Rats.nilR W
      ·exact (HL.out.y.keep fun i hi=>bF _ (by have:=(HL.out.y.lt i hi).1;have:=XW5.out.size;have:=HSW.out;omega) _ _ _ _ _ _ _).onRats (by have:=HX0.out.size;have:=XW1.out.size;have:=X5.out.size;omega)
      ·exact fun W _=>Rats.nilR W
   ·have HRAW:=ae (show rawT A B C=(aY C.length (q1.t,q1.left) B.length).bind fun s=>(aO (bU C B.length) s.2 s.1).map fun p2 =>
     if 0<=p2.col then ⟨3,(solT p2.t).take C.length,[],rayN p2.t C.length p2.col.toNat B.length,(0,0),1000-p2.left⟩
     else ⟨1,(solT p2.t).take C.length,(List.range B.length).map (dk B p2.costs C.length),[],negR (p2.costs[C.length+B.length]?.getD (0,0)),1000-p2.left⟩ by
     unfold rawT;rw [<-HO1.out];simp only [Option.bind_some];rw [HLV.out,if_neg (by omega)])
    have HS0:=ae (show cY w5 w1.heap.size _ _ _ _ _ _ vs5 q1.t (1000-q1.left) false from HS5.out);have HD0:=ae (show aY nc (q1.t,q1.left) 0=some (q1.t,q1.left) from rfl);have hlt0:=lt_of_block HS0.out.box;have HQL:=ae hql;go_upto_region 20 with fail;clear c0 c1 c2 c3' c4' cf hz0 hz1 hr5a hr5b hql;go_wp2_with fail
    go_loopg [98] nb (fun gk ii wr=>∃ (k:Nat) (tt:Tb) (lf:Nat) (ra:Option Addr) (rn rc:Nat) (ba:Option Addr) (bn bc:Nat) (vs:List Value),Hid (gk+k=nb)/\ii=.int .i64 (k:Int)/\Hid (aY nc (q1.t,q1.left) k=some (tt,lf))/\Hid (cY wr w1.heap.size ra rn rc ba bn bc vs tt (1000-lf) false)/\Hid (Mod w1.heap.size w5 wr))
    case atStart=>exact ⟨0,_,_,_,_,_,_,_,_,_,ae (by omega),rfl,HD0,HS0,ae (Mod.refl _ _)⟩
    case round =>
     obtain ⟨g1,h_g1⟩:∃ x,x=gk:=⟨_,rfl⟩;subst h_g1;obtain ⟨wr1,h_wr1⟩:∃ x,x=wr:=⟨_,rfl⟩;subst h_wr1;obtain ⟨k,tt,lf,ra,rn,rc,ba,bn,bc,vs,HK,rfl,HD,HSK,HM⟩:=hrel;have hdi:=ek (s:=(q1.t,q1.left)) HQT.out HD.out;have HT:=ae (show TInv nc nb _ tt from hdi.1);have hlf:lf<=1000:=by have h1:=hdi.2;have h2:=HQL.out;simp only at h1;omega
     have hl1:=lt_of_block HSK.out.box;have hs1:=HM.out.size;obtain ⟨c0,c1,c2,c3,c4,cf⟩:=HSK.out.cells;have hrn:rn=nb:=by have h1:=HSK.out.tb.tbc.rows.hlen;have h2:=HT.out.len;omega
     have hbn:bn=nb:=by have h1:=HSK.out.tb.tbc.basis.hlen;have h2:=HT.out.blen;omega
     subst hrn;subst hbn;clear hdi;by_cases hlt:k<bn
     ·obtain ⟨eb,eoff,hea,he0⟩:=HSK.out.tb.tbc.basis.at hlt;subst hea;obtain ⟨b,hb⟩:∃ b,b=tt.basis[k]?.getD 0:=⟨_,rfl⟩;rw [<-hb] at he0;have HB:=ae hb;clear hb;by_cases hbc:b<(nc:Int)
      ·have HD1:=ae (jF HD.out (by rw [<-HB.out];exact hbc));go_wp2_with fail
       go_roundg (g1-1)
       case measure=>have:=HK.out;omega
       case rel=>exact ⟨k+1,tt,lf,_,_,_,_,_,_,_,ae (by have:=HK.out;omega),by go_num,HD1,HSK,HM⟩
      ·have HNB:=ae (show ¬ tt.basis[k]?.getD 0<nc by rw [<-HB.out];exact hbc);have HROW:=ae (HSK.out.tb.tbc.rows.at hlt);have hqj:=HT.out.row k hlt;have HRL:=ae hqj.1;have HLS:=ae HT.out.bounds;clear hqj
       go_upto_block 4 with fail
       go_cut [] (fun wx=>Left w1.heap.size wr1 wx ((aY nc (q1.t,q1.left) (k+1)).map fun x=>(x.1,1000-x.2)))
       case first =>
        go_wp2_with fail
        go_loopg [112] nc (fun gk jj wr=>∃ j:Nat,Hid (gk+j=nc)/\jj=.int .i64 (j:Int)/\Hid (((tt.row k).take j).all (fun c=>!offZ c)=true)/\Hid (Ext wr1 wr))
        case atStart=>exact ⟨0,ae (by omega),rfl,ae rfl,ae (Ext.refl _)⟩
        case round =>
         obtain ⟨g2,h_g2⟩:∃ x,x=gk:=⟨_,rfl⟩;subst h_g2;obtain ⟨wr2,h_wr2⟩:∃ x,x=wr:=⟨_,rfl⟩;subst h_wr2;obtain ⟨j,HJ,rfl,HA,HX2⟩:=hrel;clear c0 c1 c2 c3 c4 cf he0;have HS2:=ae (HSK.out.ext HX2.out);obtain ⟨c0,c1,c2,c3,c4,cf⟩:=HS2.out.cells;by_cases hjl:j<nc
         ·obtain ⟨zb1,zoff1,ya,yn,yc,hza1,hz0,hrow⟩:=HS2.out.tb.tbc.rows.at hlt;subst hza1;have hyn:yn=nc+bn+1:=by rw [<-hrow.hlen];exact HRL.out
          have hy1:=hrow.hcap;have hy2:=hrow.hmax;obtain ⟨yb,yoff,p,q,hya,hpq,hy0c,hy1c⟩:=hrow.at (show j<yn by omega);subst hya;have hjy:(j:Int)<(yn:Int):=by omega
          have HPQ:=ae (show (tt.row k)[j]?.getD (0,0)=(p,q) from hpq);have HROW2:=ae hrow;clear hpq hrow hyn;go_upto_region 27 with fail
          go_cut [127] (fun s127 wx=>s127=.bool (offZ (p,q))/\Hid (Ext wr2 wx))
          case first =>
           cases h1:(p == 0)
           all_goals
            cases h2:(q == 1)
           all_goals
            have HE8:=ae (offZ_eq p q);rw [h1,h2] at HE8;have hk2:Ext wr2 wr2.drew:=Ext.drew wr2;have hka:=hk2;have HKEEP:=ae (fun (w':World) (h:Ext wr2 w')=>(⟨h.cellSome c0,h.cellSome hz0,h.cellSome hy0c,h.cellSome hy1c,h⟩:w'.cell? ⟨w1.heap.size,0,none⟩=some (.slice (some ⟨zb1,zoff1,none⟩) bn rc)/\w'.cell? ⟨zb1,zoff1+k,none⟩=some (.slice (some ⟨yb,yoff,none⟩) yn yc)/\w'.cell? ⟨yb,yoff+j*2,none⟩=some (.int .i64 p)/\w'.cell? ⟨yb,yoff+j*2+1,none⟩=some (.int .i64 q)/\Ext wr2 w'))
            go_region_held3 (fun w'=>w'.cell? ⟨w1.heap.size,0,none⟩=some (.slice (some ⟨zb1,zoff1,none⟩) bn rc)/\w'.cell? ⟨zb1,zoff1+k,none⟩=some (.slice (some ⟨yb,yoff,none⟩) yn yc)/\w'.cell? ⟨yb,yoff+j*2,none⟩=some (.int .i64 p)/\w'.cell? ⟨yb,yoff+j*2+1,none⟩=some (.int .i64 q)/\Ext wr2 w')
             (with_reducible exact HKEEP.out _ hk2)
             (first
               | (go_at_call 112
                  (with_reducible refine (cz 0 _).mono ?_)
                  rintro e w7 ⟨rfl,hx_w7⟩;have hk2:Ext wr2 w7:=hk2.trans hx_w7
                  have hs_w7:=hk2.size)
               | fail)
            clear HKEEP hka;go_wp2_with fail;go_meet;exact ⟨by rw [HE8.out];rfl,ae hk2⟩
          obtain ⟨rfl,HXC⟩:=hcut;have HX3:=ae (HX2.out.trans HXC.out);have HS3:=ae (HS2.out.ext HXC.out);clear c0 c1 c2 c3 c4 cf hz0 hy0c hy1c;cases hoff:offZ (p,q)
          ·have HA2:=ae (ld (by rw [HRL.out];omega) HPQ.out HA.out hoff);clear hoff;go_wp2_with fail
           go_roundg (g2-1)
           case measure=>have:=HJ.out;omega
           case rel=>exact ⟨j+1,ae (by have:=HJ.out;omega),by go_num,HA2,HX3⟩
          ·have HDL:=ae (jD HD.out (by have:=HNB.out;omega) hjl (by rw [HRL.out];omega) HA.out (by rw [HPQ.out];exact hoff) hlf);have HPV:=ae (nM HS3.out HT.out (by omega) (by omega) (by omega) (k:Int) (j:Int));clear hoff;go_wp2_with fail;refine HPV.out.mono ?_;rintro e w6 ⟨rfl,hl6⟩;have HL6:=ae (Left.more HX3.out hl6);clear hl6;go_wp2_with fail;go_meet;rw [HDL.out];exact HL6.out
         ·have hjn:nc=j:=by have:=HJ.out;omega
          have HDL:=ae (jE HD.out (by have:=HNB.out;omega) (by rw [hjn];exact HA.out));clear hjn;go_wp2_with fail;go_meet;rw [HDL.out];exact ⟨Mod.of HX2.out,_,_,_,_,_,_,_,HS2.out⟩
       obtain ⟨hmc,ra',rn',rc',ba',bn',bc',vs',hleft⟩:=hcut;have HMC:=ae (HM.out.trans hmc);clear hmc c0 c1 c2 c3 c4 cf he0;cases hd:aY nc (q1.t,q1.left) (k+1) with
       | none =>
         rw [hd] at hleft;obtain ⟨t',n',hs'⟩:=hleft;have HSF:=ae hs';have HNO:=ae (show rawT A B C=none by rw [HRAW.out,HLC.out,HLB.out,im hd (by omega)];rfl);clear hs' hd;obtain ⟨c0,c1,c2,c3,c4,cf⟩:=HSF.out.cells;have XWR:=ae (HMC.out.ext XW5.out (by have:=XW1.out.size;omega));obtain ⟨l0,l1,l2,l3,l4,l5,l6,lf'⟩:=lbox (XWR.out.blk HGB.out);go_wp2_with fail;refine bodyPost_ret (v:=.tuple #[lrW (aL 0) none 0 0 none 0 0 none 0 0,.bool false]) (by simp [results,Tryz.results198,go_sem,l0,l1,l2,l3,l4,l5,l6,lf',aL]) rfl ⟨?_,(HX0.out.trans XWR.out).set7 (Nat.le_succ _) _ _ _ _ _ _ _⟩;rw [HNO.out];exact ⟨aL 0,none,0,0,none,0,0,none,0,0,rfl⟩
       | some st =>
         obtain ⟨t',f'⟩:=st;rw [hd] at hleft;have HD':=ae hd;have HSF:=ae (show cY wc w1.heap.size ra' rn' rc' ba' bn' bc' vs' t' (1000-f') false from hleft);clear hleft hd;obtain ⟨c0,c1,c2,c3,c4,cf⟩:=HSF.out.cells;go_wp2_with fail
         go_roundg (g1-1)
         case measure=>have:=HK.out;omega
         case rel=>exact ⟨k+1,t',f',_,_,_,_,_,_,_,ae (by have:=HK.out;omega),by go_num,HD',HSF,HMC⟩
     ·have hkn:bn=k:=by have:=HK.out;omega
      subst hkn;have XWR:=ae (HM.out.ext XW5.out (by have:=XW1.out.size;omega));have HZR1:=ae (HZ5.out.mod HM.out HS0.out.box);have p2:=ap (XWR.out.blk HTB.out);have HCO2:=ae (kV (H.out.ext XWR.out).c 0 bn (by omega) (by omega));clear c0 c1 c2 c3 c4 cf;go_wp2_with fail;refine HCO2.out.mono ?_;rintro e w6 ⟨⟨v6,rfl,ho6⟩,hx⟩;obtain ⟨a6,n6,c6,rfl,HN6⟩:=ho6.var;have HS6:=ae (HSK.out.ext hx);have X6:=ae (XWR.out.trans hx);have HZ6:=ae (HZR1.out.ext hx);have HRUN2:=ae (i_run HS6.out HT.out (by omega) (by omega) (by omega) ho6);have HC2:=ae (show C++List.replicate bn ((0:Int),(1:Int))=bU C B.length by unfold bU;rw [HLB.out]);clear ho6 hx HN6 p2;go_wp2_with fail;refine HRUN2.out.mono ?_;rintro e w7 ⟨hm7,ra7,rn7,rc7,ba7,bn7,bc7,vs7,hp7⟩;obtain ⟨o2,ho2⟩:∃ o,o=aO (bU C B.length) lf tt:=⟨_,rfl⟩;have hpe:aO (C++List.replicate bn ((0:Int),(1:Int))) (1000-(1000-lf)) tt=o2:=by rw [ho2,HC2.out,show 1000-(1000-lf)=lf by omega]
      rw [hpe] at hp7;have HO2:=ae ho2;have HZ7:=ae (HZ6.out.mod hm7 HS6.out.box);have X7:=ae (show Ext W w7 from hm7.ext X6.out (by have:=XW1.out.size;omega));clear hpe ho2 hm7;cases o2 with
      | none =>
        obtain ⟨v7,col7,t7,n7',rfl,hs7⟩:=hp7;have HS7:=ae hs7;clear hs7;obtain ⟨c0,c1,c2,c3,c4,cf⟩:=HS7.out.cells;have HNO:=ae (show rawT A B C=none by rw [HRAW.out,HLC.out,HLB.out,HD.out,Option.bind_some];simp only;rw [show bU C bn=bU C B.length by rw [HLB.out],<-HO2.out];rfl);obtain ⟨l0,l1,l2,l3,l4,l5,l6,lf'⟩:=lbox (X7.out.blk HGB.out);go_wp2_with fail;refine bodyPost_ret (v:=.tuple #[lrW (aL 0) none 0 0 none 0 0 none 0 0,.bool false]) (by simp [results,Tryz.results198,go_sem,l0,l1,l2,l3,l4,l5,l6,lf',aL]) rfl ⟨?_,(HX0.out.trans X7.out).set7 (Nat.le_succ _) _ _ _ _ _ _ _⟩;rw [HNO.out];exact ⟨aL 0,none,0,0,none,0,0,none,0,0,rfl⟩
      | some q2 =>
        obtain ⟨v7,rfl,ho7,hs7⟩:=hp7;obtain ⟨a10,n10,c10,rfl,HN10⟩:=ho7.var;have HS7:=ae hs7;have HO7:=ae ho7;have hinv:=dg HT.out HO2.out.symm;have HQ2T:=ae hinv.1;have HQC2:=ae (dE HQ2T.out hinv.2.1).1;have HQL2:=ae hinv.2.2;have hcol:=lh HT.out HO2.out.symm
        have HRES:=ae (show rawT A B C=some (if 0<=q2.col then ⟨3,(solT q2.t).take nc,[],rayN q2.t nc q2.col.toNat bn,(0,0),1000-q2.left⟩
         else ⟨1,(solT q2.t).take nc,(List.range bn).map (dk B q2.costs nc),[],negR (q2.costs[nc+bn]?.getD (0,0)),1000-q2.left⟩) by
         rw [HRAW.out,HLC.out,HLB.out,HD.out,Option.bind_some];simp only;rw [show bU C bn=bU C B.length by rw [HLB.out],<-HO2.out];rfl)
        have hb7:bn=bn7:=by have h1:=hs7.tb.tbc.basis.hlen;have h2:=HQ2T.out.blen;omega
        have hr7:bn=rn7:=by have h1:=hs7.tb.tbc.rows.hlen;have h2:=HQ2T.out.len;omega
        subst hb7;subst hr7;clear hs7 ho7 hinv;have hn10:n10=u+1:=by have h1:=HN10.out;rw [HQC2.out.1] at h1;have:=HU.out;omega
        have HN1:=ae hn10;have hr10a:=HO7.out.rats.hcap;have hr10b:=HO7.out.rats.hmax;clear hn10;obtain ⟨c0,c1,c2,c3,c4,cf⟩:=HS7.out.cells;obtain ⟨pv,hpv⟩:∃ p:Int,p=((1000-q2.left:Nat):Int):=⟨_,rfl⟩;have HPVV:=ae (show (1000:Int)-(q2.left:Int)=pv by have:=HQL2.out;rw [hpv];omega);have HPVC:=ae hpv.symm;clear hpv;have HSOL:=ae (lV HS7.out.tb.tbc (by omega) (HQ2T.out.ok (by omega)));have hsl:(solT q2.t).length=nc+bn:=by
         unfold solT;rw [if_pos (HQ2T.out.ok (by omega)),fT,HQ2T.out.cols,HQ2T.out.len];simp
        have HSL:=ae hsl;clear hsl;obtain ⟨qc,hqc⟩:∃ c,c=q2.col:=⟨_,rfl⟩;rw [<-hqc] at hcol HRES ⊢;clear hqc;go_wp2_with fail;refine HSOL.out.mono ?_;rintro e w8 ⟨⟨v8,rfl,ho8⟩,hx⟩;obtain ⟨ax,nx,cx,rfl,HNX⟩:=ho8.var;have hnx:nx=nc+bn:=by have h1:=HNX.out;rw [HSL.out] at h1;omega
        have HX8:=ae hx;have HOX:=ae ho8;have HS8:=ae (HS7.out.ext hx);have HZ8:=ae (HZ7.out.ext hx);have X8:=ae (X7.out.trans hx);have hcx:=ho8.rats.hcap;have hcx2:=ho8.rats.hmax;have hcx3:(nc:Int)<=(cx:Int):=by omega
        clear ho8 hx hnx hcx c0 c1 c2 c3 c4 cf;have hs8:=X8.out.size
        rcases hcol with hc|⟨jc,hc,hjc⟩
        ·subst hc
         have HRS:=ae (show rawT A B C=some ⟨1,(solT q2.t).take nc,(List.range bn).map (dk B q2.costs nc),[],negR (q2.costs[nc+bn]?.getD (0,0)),pv⟩ by
          rw [HRES.out,if_neg (by omega),HPVV.out])
         have hwu:IntKind.i64.wrap ((n10:Int)-1)=(u:Int):=by have:=HN1.out;rw [IntKind.wrap_i64];omega
         have HC8:=ae (HO7.out.ext HX8.out);obtain ⟨yb,yoff,vx,vy,hya,hlv,hy0,hy1⟩:=HC8.out.rats.at (show u<n10 by have:=HN1.out;omega);subst hya;have hvb:=HQC2.out.2 u (by have:=HU.out;omega);rw [hlv] at hvb;have hvb:=bh hvb;have hvx0:-9223372036854775807<=vx:=by have:=hvb.2.2.1;simp only at this;omega
         have hvx1:vx<=9223372036854775807:=by have:=hvb.2.2.2;simp only at this;omega
         have HVV:=ae (show negR (q2.costs[nc+bn]?.getD (0,0))=(-vx,vy) by rw [<-HU.out,hlv];rfl);obtain ⟨c0,c1,c2,c3,c4,cf⟩:=HS8.out.cells;rw [HPVC.out] at c3;have hu1:(u:Int)<(n10:Int):=by have:=HN1.out;omega
         have hu0:(0:Int)<=(u:Int):=by omega
         clear hlv hvb;go_upto_region 47 with fail
         go_cut [21] (fun sx wx=>∃ g:Nat,sx=.pointer (some ⟨g,0,none⟩)/\Hid (LrB w8 wx g 1 (.slice ax nc cx) (.slice none 0 0) (.slice none 0 0) (-vx) vy pv))
         case first =>
          have hk2:Ext w8 w8.drew:=Ext.drew w8;have HKEEP:=ae (fun (w':World) (h:Ext w8 w')=>(⟨h.cellSome hy0,h.cellSome hy1,h.cellSome c3,h⟩:w'.cell? ⟨yb,yoff+u*2,none⟩=some (.int .i64 vx)/\w'.cell? ⟨yb,yoff+u*2+1,none⟩=some (.int .i64 vy)/\w'.cell? ⟨w1.heap.size,3,none⟩=some (.int .i64 pv)/\Ext w8 w'));refine wp_region_held_drew (S:=(fun w'=>w'.cell? ⟨yb,yoff+u*2,none⟩=some (.int .i64 vx)/\w'.cell? ⟨yb,yoff+u*2+1,none⟩=some (.int .i64 vy)/\w'.cell? ⟨w1.heap.size,3,none⟩=some (.int .i64 pv)/\Ext w8 w')) (by kernel_rfl) ?_ (fun hHeld=>?_)
          ·exact HKEEP.out _ hk2
          refine tk 0 ?_;refine tk 1 ?_;refine tk 2 ?_;refine tk 3 ?_;refine tk 4 ?_;refine tk 5 ?_;refine tk 6 ?_;refine tk 8 ?_;refine tk 9 ?_;refine tk 10 ?_;refine tk 11 ?_;refine wpAnyH_ready (rs:=[7,13]) (by kernel_rfl) (by simp) ?_;refine AllReadyH.cons (o:=?_) ?_ (fun K hK=>?_) ?_;rotate_left
          ·simp only [gA,gB,gC];rfl
          ·
           go_simp
           (go_at_call 137;refine (dM vx vy _ hvx0 hvx1).mono ?_;rintro e w9 ⟨rfl,hx_w9⟩;have hk2:=hk2.trans hx_w9)
           go_wp2_with fail;refine hK.out _ _ ?_ (fun hHeld=>?_)
           ·exact HKEEP.out _ hk2
           clear hK K
           try simp only [Act.put,sA,sB,sC]
           refine tk 12 ?_;have hLZ:=LrB.new hk2;refine rd (i:=13) (h:=fun K hK=>?_);go_simp;refine hK.out _ _ ?_ (fun hHeld=>?_)
           ·exact HKEEP.out _ hLZ.ext
           clear hK K
           try simp only [Act.put,sA,sB,sC]
           obtain ⟨gz,hgz⟩:∃ g,g=w9.heap.size:=⟨_,rfl⟩;rw [<-hgz] at hLZ;rw [<-hgz];obtain ⟨WZ,hWZ⟩:∃ x,x=w9.alloc lrZ:=⟨_,rfl⟩;rw [<-hWZ] at hLZ hHeld;rw [<-hWZ];clear hWZ hgz;have b0_:=hLZ.c0;have b1_:=hLZ.c1;have b2_:=hLZ.c2;have b3_:=hLZ.c3;have b4_:=hLZ.c4;have b5_:=hLZ.c5;have b6_:=hLZ.c6;have bf_:=hLZ.free;refine rd (i:=14) (h:=fun K hK=>?_);go_simp;refine hK.out _ _ ?_ (fun hHeld=>?_)
           ·exact HKEEP.out _ (hLZ.put _ _ _ _ _ _ _).ext
           clear hK K
           try simp only [Act.put,sA,sB,sC]
           refine wpAnyH_done (by kernel_rfl) ?_ _;go_wp2_with fail;go_meet;exact ⟨_,rfl,ae (hLZ.put _ _ _ _ _ _ _)⟩
          refine AllReadyH.cons (o:=?_) ?_ (fun K hK=>?_) AllReadyH.nil;rotate_left
          ·simp only [gA,gB,gC];rfl
          have hLZ:=LrB.firstD (Ext.refl (w8.alloc lrZ).drew);go_simp;refine hK.out _ _ ?_ (fun hHeld=>?_)
          ·exact HKEEP.out _ hLZ.ext
          clear hK K
          try simp only [Act.put,sA,sB,sC]
          obtain ⟨gz,hgz⟩:∃ g,g=w8.heap.size:=⟨_,rfl⟩;rw [<-hgz] at hLZ;rw [<-hgz];obtain ⟨WZ,hWZ⟩:∃ x,x=(w8.alloc lrZ).drew:=⟨_,rfl⟩;rw [<-hWZ] at hLZ hHeld;rw [<-hWZ];clear hWZ hgz;refine rd (i:=7) (h:=fun K hK=>?_);go_simp
          (go_at_call 137;refine (dM vx vy _ hvx0 hvx1).mono ?_;rintro e w9 ⟨rfl,hx_w9⟩;have hLZ:=hLZ.grow hx_w9;have hk2:=hLZ.ext)
          go_wp2_with fail;refine hK.out _ _ ?_ (fun hHeld=>?_)
          ·exact HKEEP.out _ hk2
          clear hK K
          try simp only [Act.put,sA,sB,sC]
          have b0_:=hLZ.c0;have b1_:=hLZ.c1;have b2_:=hLZ.c2;have b3_:=hLZ.c3;have b4_:=hLZ.c4;have b5_:=hLZ.c5;have b6_:=hLZ.c6;have bf_:=hLZ.free;refine tk 12 ?_;refine rd (i:=14) (h:=fun K hK=>?_);go_simp;refine hK.out _ _ ?_ (fun hHeld=>?_)
          ·exact HKEEP.out _ (hLZ.put _ _ _ _ _ _ _).ext
          clear hK K
          try simp only [Act.put,sA,sB,sC]
          refine wpAnyH_done (by kernel_rfl) ?_ _;go_wp2_with fail;go_meet;exact ⟨_,rfl,ae (hLZ.put _ _ _ _ _ _ _)⟩
         obtain ⟨g,rfl,HLB⟩:=hcut;have HL0:=ae (show LrO wc w8.heap.size g 1 (.slice ax nc cx) (.slice none 0 0) (.slice none 0 0) (-vx) vy pv ((List.range 0).map (dk B q2.costs nc)) from ⟨HLB.out.box,HLB.out.hg,OwnR.nil _ _⟩);have HXC:=ae HLB.out.ext;clear HLB c0 c1 c2 c3 c4 cf hy0 hy1 hwu;go_wp2_with fail
         go_loopg [219] bn (fun gk ii wr=>∃ (k:Nat) (vY:Value),Hid (gk+k=bn)/\ii=.int .i64 (k:Int)/\Hid (LrO wr w8.heap.size g 1 (.slice ax nc cx) vY (.slice none 0 0) (-vx) vy pv ((List.range k).map (dk B q2.costs nc)))/\Hid (Ext w8 wr))
         case atStart=>exact ⟨0,_,ae (by omega),rfl,HL0,HXC⟩
         case round =>
          obtain ⟨g2,h_g2⟩:∃ x,x=gk:=⟨_,rfl⟩;subst h_g2;obtain ⟨wr2,h_wr2⟩:∃ x,x=wr:=⟨_,rfl⟩;subst h_wr2;obtain ⟨k,vY,HKK,rfl,HL,HX⟩:=hrel;have hsr:=HX.out.size;have XWR2:=ae (X8.out.trans HX.out);by_cases hlt:k<bn
          ·obtain ⟨z,hz⟩:∃ z,z=nc+k:=⟨_,rfl⟩;have hzu:z<n10:=by have:=HU.out;have:=HN1.out;omega
           obtain ⟨zb',zoff',ex,ey,hza',hev,he0,he1⟩:=(HC8.out.ext HX.out).rats.at hzu;simp only [Option.some.injEq,Addr.mk.injEq,and_true] at hza';obtain ⟨rfl,rfl⟩:=hza';have hvb:=HQC2.out.2 z (by have:=HU.out;have:=HN1.out;omega);rw [hev] at hvb;have hvb:=bh hvb;have hex0:-9223372036854775807<=ex:=by have:=hvb.2.2.1;simp only at this;omega
           have hex1:ex<=9223372036854775807:=by have:=hvb.2.2.2;simp only at this;omega
           have hnx0:-9223372036854775807<=-ex:=by have:=hvb.2.2.2;simp only at this;omega
           have hnx1:-ex<=9223372036854775807:=by have:=hvb.2.2.1;simp only at this;omega
           obtain ⟨yB,yoffB,hbaB,hb0⟩:=(H.out.ext XWR2.out).b.at hlt;subst hbaB;obtain ⟨bi,hbi⟩:∃ x,x=B[k]?.getD 0:=⟨_,rfl⟩;rw [<-hbi] at hb0;have HDF:=ae (show dk B q2.costs nc k=sgnR bi (-ex,ey) by unfold dk;rw [<-hz,hev,hbi];rfl);have hwz:IntKind.i64.wrap ((nc:Int)+(k:Int))=(z:Int):=by rw [IntKind.wrap_i64];omega
           have hz1':(z:Int)<(n10:Int):=by omega
           have hz0':(0:Int)<=(z:Int):=by omega
           have HBI:=ae hbi;clear hev hbi hz hvb hb0;go_wp2_with fail;refine (dM ex ey _ hex0 hex1).mono ?_;rintro e w9 ⟨rfl,hx⟩;obtain ⟨E2,hE2⟩:∃ x,x=w9.alloc (.cells #[.int .i64 (-ex),.int .i64 ey] 43):=⟨_,rfl⟩;have HB1:=ae (show ah wr2 E2 w9.heap.size (-ex) ey by rw [hE2];exact ah.new hx _ _);obtain ⟨gb,hgb⟩:∃ x,x=w9.heap.size:=⟨_,rfl⟩;rw [<-hgb] at HB1;have XWC:=ae (XWR2.out.trans HB1.out.ext);go_upto_region 52 with fail;rw [<-hE2,<-hgb];clear hE2 hgb hx hwz hz1' hz0' he0 he1;have p1:=am (XWC.out.blk HTB.out);obtain ⟨bb',boff',hba',hb0⟩:=(H.out.ext XWC.out).b.at hlt;simp only [Option.some.injEq,Addr.mk.injEq,and_true] at hba';obtain ⟨rfl,rfl⟩:=hba';rw [<-HBI.out] at hb0;have HL2:=ae (HL.out.ext HB1.out.ext);have HX2:=ae (HX.out.trans HB1.out.ext);obtain ⟨e1,hsg⟩:∃ e1,sgnR bi (-ex,ey)=(e1,ey):=by unfold sgnR negR;split <;> exact ⟨_,rfl⟩
           have HSG:=ae hsg;clear hsg
           go_upto_if 234 with fail
           go_cut [6] (fun s6 wx=>s6=.pointer (some ⟨w1.heap.size,0,none⟩)/\Hid (ah wr2 wx gb e1 ey))
           case first =>
            have g0:=HB1.out.c0;have g1':=HB1.out.c1;have gf:=HB1.out.free;by_cases hbn:bi<0
            ·have he1:ex=e1:=by have:=HSG.out;unfold sgnR negR at this;rw [if_pos hbn] at this;exact (Int.neg_neg ex).symm.trans (congrArg Prod.fst this)
             subst he1;rw [show decide (bi<0)=true from decide_eq_true hbn];go_wp2_with fail;refine (dM (-ex) ey _ hnx0 hnx1).mono ?_;rintro e w9 ⟨rfl,hx⟩;have HB2:=ae (HB1.out.grow hx);clear hx g0 g1' gf;have g0:=HB2.out.c0;have g1':=HB2.out.c1;have gf:=HB2.out.free;go_wp2_with fail;go_meet;exact ⟨rfl,ae (HB2.out.put _ _)⟩
            ·have he1:e1=-ex:=by have:=HSG.out;unfold sgnR at this;rw [if_neg (by omega)] at this;exact (congrArg Prod.fst this).symm
             subst he1;rw [show decide (bi<0)=false from decide_eq_false (by omega)];go_wp2_with fail;go_meet;exact ⟨rfl,HB1⟩
           obtain ⟨rfl,HB3⟩:=hcut;have HLC3:=ae (HL.out.ext HB3.out.ext);have HX3:=ae (HX.out.trans HB3.out.ext);have g0:=HB3.out.c0;have g1':=HB3.out.c1;have y2:=(lbox HLC3.out.box).2.2.1;have hgl:=HB3.out.lt;have hlb:=lt_of_block HLC3.out.box;have hs3:=HX3.out.size;have HYL:=ae (show ((List.range k).map (dk B q2.costs nc)).length=k by simp);have HSN:=ae (show (List.range k).map (dk B q2.costs nc)++[(e1,ey)]=(List.range (k+1)).map (dk B q2.costs nc) by rw [<-HSG.out,<-HDF.out];exact cK _ _);have hgb2:=HLC3.out.hg;clear p1 hb0
           go_wp2_with (first
            | (at_builtin;refine aJ rfl _ _ rfl w8.heap.size vY _ rfl (HLC3.out.y.ext (Ext.alloc _ _)) _ 1 _ [(e1,ey)] rfl (Rats.one' _ _ _ _ _ (by simp)) (by rw [HYL.out];omega) (by simp;omega) ?_;intro v9 w9 ho hg hnear;obtain ⟨a9,n9,q9,rfl,HN9⟩:=ho.var;have HO9:=ae ho;have HG9:=ae hg;have hbx:=HLC3.out.boxY (Ext.alloc _ _) hg;have c09:=(lbox hbx).2.2.1;have cf9:=(lbox hbx).2.2.2.2.2.2.2;have hX9:Ext w8 w9:=aq (Ext.trans HX3.out (Ext.alloc _ _)) hg (fun j hj=>(HLC3.out.y.lt j hj).1);clear ho hg hnear hbx))
           have HL9:=ae (HLC3.out.pushY (Ext.alloc _ _) HG9.out HO9.out);have HXN:=ae (hX9.setCell (p:=⟨g,2,none⟩) hgb2 (.slice a9 n9 q9))
           go_roundg (g2-1)
           case measure=>have:=HKK.out;omega
           case rel=>exact ⟨k+1,_,ae (by have:=HKK.out;omega),by go_num,ae (by rw [<-HSN.out];exact HL9.out),HXN⟩
          ·have hkn:bn=k:=by have:=HKK.out;omega
           subst hkn;obtain ⟨ay,ny,cy,rfl,HNY⟩:=HL.out.y.var;obtain ⟨m0,m1,m2,m3,m4,m5,m6,mf⟩:=lbox HL.out.box;obtain ⟨l0,l1,l2,l3,l4,l5,l6,lf'⟩:=lbox (XWR2.out.blk HGB.out);have hm1:=lt_of_block HL.out.box;have hsz7:=X7.out.size;have hsz8:=X8.out.size;have hswz:=HSW.out;go_wp2_with fail;refine bodyPost_ret (v:=.tuple #[lrW ⟨1,(solT q2.t).take nc,(List.range bn).map (dk B q2.costs nc),[],(-vx,vy),pv⟩ ax nc cx ay ny cy none 0 0,.bool true]) (by simp [results,Tryz.results198,go_sem,l0,l1,l2,l3,l4,l5,l6,lf']) rfl ⟨?_,(HX0.out.trans XWR2.out).set7 (Nat.le_succ _) _ _ _ _ _ _ _⟩;rw [HRS.out,HVV.out];refine ⟨ax,nc,cx,ay,ny,cy,none,0,0,rfl,?_,?_,?_⟩
           ·exact ((HOX.out.ext HX.out).keep fun i hi=>bF _ (by have:=(HOX.out.lt i hi).1;omega) _ _ _ _ _ _ _).onTake (by have:=HX0.out.size;have:=XW1.out.size;have:=X7.out.size;omega) (by have h1:=HNX.out;rw [HSL.out] at h1;omega)
           ·exact (HL.out.y.keep fun i hi=>bF _ (by have:=(HL.out.y.lt i hi).1;omega) _ _ _ _ _ _ _).onRats (by have:=HX0.out.size;have:=X8.out.size;omega)
           ·exact fun W _=>Rats.nilR W
        ·subst hc
         have HRS:=ae (show rawT A B C=some ⟨3,(solT q2.t).take nc,[],rayN q2.t nc jc bn,(0,0),pv⟩ by
          rw [HRES.out,if_pos (by omega),HPVV.out,Int.toNat_natCast])
         have HRT9:=ae (fO HZ8.out.ints (by omega));rw [HZR.out] at HRT9;go_wp2_with fail;refine HRT9.out.mono ?_;rintro e w9 ⟨⟨v9,rfl,ho9⟩,hx⟩;obtain ⟨a9,n9,c9,rfl,HN9⟩:=ho9.var;obtain rfl:nc=n9:=by have h1:=HN9.out;rw [List.length_replicate] at h1;exact h1
         obtain ⟨G,hG,hbG,hfr,hGl⟩:=ho9.block (k:=jc) hjc;subst hG;have HO9:=ae ho9;have HX9:=ae hx;have hjc2:(jc:Int)<(nc:Int):=by omega
         clear ho9 hx;go_wp2_with fail;refine (cz 1 _).mono ?_;rintro e w10 ⟨rfl,hx⟩;have HO10:=ae (HO9.out.ext hx);have HX10:=ae (HX9.out.trans hx);obtain ⟨G',goff',g1v,g2v,hG',hgv,hg0,hg1⟩:=HO10.out.rats.at hjc;simp only [Option.some.injEq,Addr.mk.injEq,and_true] at hG';obtain ⟨rfl,rfl⟩:=hG';rw [Nat.zero_add] at hg0 hg1;have hGl2:=Nat.lt_of_lt_of_le hGl hx.size;have hfr2:∀ j,w10.frozen? ⟨G,j,none⟩=false:=fun j=>(hx.frozen (p:=⟨G,j,none⟩) hGl).trans (hfr j)
         have HRY:=ae (show OwnR ((w10.setCell ⟨G,jc*2,none⟩ (.int .i64 1)).setCell ⟨G,jc*2+1,none⟩ (.int .i64 1)) w8.heap.size (.slice (some ⟨G,0,none⟩) nc c9) (rayN q2.t nc jc 0) by
          rw [pY];exact HO10.out.set (k:=jc) (by simp;omega) 1 1)
         have HX11:=ae ((HX10.out.setCell (p:=⟨G,jc*2,none⟩) hbG (.int .i64 1)).setCell (p:=⟨G,jc*2+1,none⟩) hbG (.int .i64 1));clear hgv hx hfr;go_upto_region 40 with fail;obtain ⟨w11,hw11⟩:∃ x,x=(w10.setCell ⟨G,jc*2,none⟩ (.int .i64 1)).setCell ⟨G,jc*2+1,none⟩ (.int .i64 1):=⟨_,rfl⟩;rw [<-hw11] at HRY HX11;rw [<-hw11];clear hw11 hg0 hg1 hfr2 hGl2 hGl;have HS11:=ae (HS8.out.ext HX11.out);obtain ⟨c0,c1,c2,c3,c4,cf⟩:=HS11.out.cells;go_wp2_with fail
         go_loopg [174] bn (fun gk ii wr=>∃ i:Nat,Hid (gk+i=bn)/\ii=.int .i64 (i:Int)/\Hid (OwnR wr w8.heap.size (.slice (some ⟨G,0,none⟩) nc c9) (rayN q2.t nc jc i))/\Hid (Ext w8 wr))
         case atStart=>exact ⟨0,ae (by omega),rfl,HRY,HX11⟩
         case round =>
          obtain ⟨g2,h_g2⟩:∃ x,x=gk:=⟨_,rfl⟩;subst h_g2;obtain ⟨wr2,h_wr2⟩:∃ x,x=wr:=⟨_,rfl⟩;subst h_wr2;obtain ⟨i,HI,rfl,HR,HXR⟩:=hrel;clear c0 c1 c2 c3 c4 cf;have HS2:=ae (HS8.out.ext HXR.out);obtain ⟨c0,c1,c2,c3,c4,cf⟩:=HS2.out.cells;rw [HPVC.out] at c3;have hs2:=HXR.out.size;by_cases hil:i<bn
          ·obtain ⟨eb,eoff,hea,he0⟩:=HS2.out.tb.tbc.basis.at hil;subst hea;obtain ⟨bb,hbb⟩:∃ b,b=q2.t.basis[i]?.getD 0:=⟨_,rfl⟩;rw [<-hbb] at he0;have HBB:=ae hbb;have hbr:0<=bb/\bb<nc+bn:=by
            rw [hbb,List.getElem?_eq_getElem (by rw [HQ2T.out.blen];exact hil)];exact HQ2T.out.bas _ (List.getElem_mem _)
           clear hbb;by_cases hbc:bb<(nc:Int)
           ·obtain ⟨bN,hbN⟩:∃ n:Nat,bb=n:=⟨bb.toNat,by omega⟩;subst hbN;have hbN2:bN<nc:=by omega
            obtain ⟨zb1,zoff1,ya,yn,yc,hza1,hz0,hrow⟩:=HS2.out.tb.tbc.rows.at hil;subst hza1;have hyn:yn=nc+bn+1:=by rw [<-hrow.hlen];exact (HQ2T.out.row i hil).1
            have hy1:=hrow.hcap;have hy2:=hrow.hmax;obtain ⟨yb,yoff,p,q,hya,hpq,hy0c,hy1c⟩:=hrow.at (show jc<yn by omega);subst hya;have hjy:(jc:Int)<(yn:Int):=by omega
            have HPQ:=ae (show q2.t.at i jc=(p,q) from hpq);have hp0:-9223372036854775807<=p:=by have:=(HQ2T.out.bounds.2 i jc).1;rw [HPQ.out] at this;exact this
            have hp1:p<=9223372036854775807:=by have:=(HQ2T.out.bounds.2 i jc).2;rw [HPQ.out] at this;exact this
            clear hpq hrow hyn hbr;go_wp2_with fail;refine (dM p q _ hp0 hp1).mono ?_;rintro e w12 ⟨rfl,hx⟩;have HR12:=ae (HR.out.ext hx);have HX12:=ae (HXR.out.trans hx);obtain ⟨G',goff',g1v,g2v,hG',hgv,hg0,hg1⟩:=HR12.out.rats.at hbN2;simp only [Option.some.injEq,Addr.mk.injEq,and_true] at hG';obtain ⟨rfl,rfl⟩:=hG';rw [Nat.zero_add] at hg0 hg1;obtain ⟨G2,hG2,hbG2,hfr2,hGl2⟩:=HR12.out.block (k:=bN) hbN2;simp only [Option.some.injEq,Addr.mk.injEq,and_true] at hG2;subst hG2
            have HRN:=ae (show OwnR ((w12.setCell ⟨G,bN*2,none⟩ (.int .i64 (-p))).setCell ⟨G,bN*2+1,none⟩ (.int .i64 q)) w8.heap.size (.slice (some ⟨G,0,none⟩) nc c9) (rayN q2.t nc jc (i+1)) by
             rw [jk (by rw [<-HBB.out];omega),<-HBB.out,Int.toNat_natCast,HPQ.out]
             exact HR12.out.set (k:=bN) (by rw [fQ];exact hbN2) (-p) q)
            have HXN:=ae ((HX12.out.setCell (p:=⟨G,bN*2,none⟩) hbG2 (.int .i64 (-p))).setCell (p:=⟨G,bN*2+1,none⟩) hbG2 (.int .i64 q));clear hgv hx c0 c1 c2 c3 c4 cf;go_wp2_with fail
            go_roundg (g2-1)
            case measure=>have:=HI.out;omega
            case rel=>exact ⟨i+1,ae (by have:=HI.out;omega),by go_num,HRN,HXN⟩
           ·have HRN:=ae (show OwnR wr2 w8.heap.size (.slice (some ⟨G,0,none⟩) nc c9) (rayN q2.t nc jc (i+1)) by rw [kB (by rw [<-HBB.out];omega)];exact HR.out);clear hbr;go_wp2_with fail
            go_roundg (g2-1)
            case measure=>have:=HI.out;omega
            case rel=>exact ⟨i+1,ae (by have:=HI.out;omega),by go_num,HRN,HXR⟩
          ·have hin:bn=i:=by have:=HI.out;omega
           subst hin;obtain ⟨l0,l1,l2,l3,l4,l5,l6,lf'⟩:=lbox ((X8.out.trans HXR.out).blk HGB.out);have hsz8:=X8.out.size;have hswz:=HSW.out;go_wp2_with fail;refine bodyPost_ret (v:=.tuple #[lrW ⟨3,(solT q2.t).take nc,[],rayN q2.t nc jc bn,(0,0),pv⟩ ax nc cx none 0 0 (some ⟨G,0,none⟩) nc c9,.bool true]) (by simp [results,Tryz.results198,go_sem,l0,l1,l2,l3,l4,l5,l6,lf']) rfl ⟨?_,(HX0.out.trans (X8.out.trans HXR.out)).set7 (Nat.le_succ _) _ _ _ _ _ _ _⟩;rw [HRS.out];refine ⟨ax,nc,cx,none,0,0,some ⟨G,0,none⟩,nc,c9,rfl,?_,?_,?_⟩
           ·exact ((HOX.out.ext HXR.out).keep fun i hi=>bF _ (by have:=(HOX.out.lt i hi).1;have:=X7.out.size;omega) _ _ _ _ _ _ _).onTake (by have:=HX0.out.size;have:=XW1.out.size;have:=X7.out.size;omega) (by have h1:=HNX.out;rw [HSL.out] at h1;omega)
           ·exact fun W _=>Rats.nilR W
           ·exact (HR.out.keep fun i hi=>bF _ (by have:=(HR.out.lt i hi).1;omega) _ _ _ _ _ _ _).onRats (by have:=HX0.out.size;have:=X8.out.size;omega)
end
end Go.Proofs.YthjjfkeacobikaaGreat
namespace Go.Proofs.YthjjfkeacobikaaGreat
set_option maxRecDepth 100000
open Go.RowKit
def LrR (w:World) (base:Nat) (e:Ending) (r:LpR):Prop:=∃ xa xn xc ya yn yc ra rn rc,e=.returned (lrW r xa xn xc ya yn yc ra rn rc)/\LrOw w base xa xn xc ya yn yc ra rn rc r
theorem LrR.zero (w:World) (base:Nat) (s:Int):LrR w base (.returned (lrW (aL s) none 0 0 none 0 0 none 0 0)) (aL s):=⟨none,0,0,none,0,0,none,0,0,rfl,LrOw.zero w base s⟩
section
variable {w:World} {a:Option Addr} {na ca:Nat} {b:Option Addr} {nb cb:Nat} {c:Option Addr} {nc cc:Nat} {A:List (List Int)} {B:List Int} {C:List (Int × Int)}
set_option maxHeartbeats 4000000 in
theorem pz (h:LpC w a na ca b nb cb c nc cc A B C) :
 Calls Tryz.prog 134 #[lpW a na ca b nb cb c nc cc] w fun e w'=>LrR w' w.heap.size e (bV aK A B C)/\Ext w w':=by
 have hx0:=(Ext.alloc w (bm a na ca b nb cb c nc cc)).trans (Ext.alloc _ lrZ);obtain ⟨W,hW⟩:∃ W,W=(w.alloc (bm a na ca b nb cb c nc cc)).alloc lrZ:=⟨_,rfl⟩;rw [<-hW] at hx0;have HX0:=ae hx0;have H:=ae (h.ext hx0);have HGB:=ae (show W.heap[w.heap.size+1]?=some (.cells #[.int .i64 0,.slice none 0 0,.slice none 0 0,.slice none 0 0,.int .i64 0,.int .i64 0,.int .i64 0] 113 (0,0)) by rw [hW];exact aj _ _ _ (by simp));have HTB:=ae (show W.heap[w.heap.size]?=some (.cells #[.slice a na ca,.slice b nb cb,.slice c nc cc] 109 (0,0)) by rw [hW,bz _ _ _ (by simp)];exact aj _ _ _ rfl);have HSW:=ae (show W.heap.size=w.heap.size+1+1 by rw [hW];simp);have HV:=ae (dJ H.out);clear hx0;cases hok:okLP A B C
 ·rw [hok] at HV;have HR:=ae (show bV aK A B C=aL 0 by unfold bV;rw [hok];rfl);clear h hok;go_enter Tryz.func134,Tryz.ntmps134
  go_upto_region 1 with fail;rw [<-hW];clear hW;have p0:=al HTB.out;have p1:=am HTB.out;have p2:=ap HTB.out;go_wp2_with fail;refine HV.out.mono ?_;rintro e w1 ⟨rfl,hx⟩;have X1:=ae hx;obtain ⟨l0,l1,l2,l3,l4,l5,l6,lf⟩:=lbox (X1.out.blk HGB.out);clear hx p0 p1 p2;go_wp2_with fail;refine bodyPost_ret (v:=lrW (aL 0) none 0 0 none 0 0 none 0 0) (by simp [results,Tryz.results134,go_sem,l0,l1,l2,l3,l4,l5,l6,lf,aL]) rfl ⟨?_,(HX0.out.trans X1.out).set7 (Nat.le_succ _) _ _ _ _ _ _ _⟩;rw [HR.out];exact LrR.zero _ _ _
 ·rw [hok] at HV;have HOK:=ae hok;have HRW:=ae (show bV aK A B C=match rawT A B C with|none=>aL 4|some r=>if aH aK A B C r=true then r else aL 4 by unfold bV;rw [if_pos hok];cases rawT A B C <;> rfl);have HSV:=ae (fun (W':World) (hx:Ext W W')=>i_solve (H.out.ext hx) HOK.out);obtain ⟨o,ho⟩:∃ o,o=rawT A B C:=⟨_,rfl⟩;rw [<-ho] at HRW;simp only [<-ho] at HSV;clear h hok ho;go_enter Tryz.func134,Tryz.ntmps134
  go_upto_region 1 with fail;rw [<-hW];clear hW;have p0:=al HTB.out;have p1:=am HTB.out;have p2:=ap HTB.out;go_wp2_with fail;refine HV.out.mono ?_;rintro e w1 ⟨rfl,hx⟩;have X1:=ae hx;clear hx p0 p1 p2;have p0:=al (X1.out.blk HTB.out);have p1:=am (X1.out.blk HTB.out);have p2:=ap (X1.out.blk HTB.out);go_wp2_with fail;refine (HSV.out _ X1.out).mono ?_;rintro e w2 ⟨hs,hx⟩;have X2:=ae (X1.out.trans hx);clear hx p0 p1 p2;cases o with
  | none =>
    obtain ⟨r,xa,xn,xc,ya,yn,yc,ra,rn,rc,rfl⟩:=hs;have X3:=ae (X2.out.trans (Ext.alloc w2 (bS r xa xn xc ya yn yc ra rn rc)));obtain ⟨rs,rX,rY,rr,⟨rv1,rv2⟩,rp⟩:=r;obtain ⟨l0,l1,l2,l3,l4,l5,l6,lf⟩:=lbox (X3.out.blk HGB.out);go_wp2_with fail;refine bodyPost_ret (v:=lrW (aL 4) none 0 0 none 0 0 none 0 0) (by simp [results,Tryz.results134,go_sem,l0,l1,l2,l3,l4,l5,l6,lf,aL]) rfl ⟨?_,(HX0.out.trans X3.out).set7 (Nat.le_succ _) _ _ _ _ _ _ _⟩;rw [HRW.out];exact LrR.zero _ _ _
  | some r =>
    obtain ⟨xa,xn,xc,ya,yn,yc,ra,rn,rc,rfl,hlr⟩:=hs;have X3:=ae (X2.out.trans (Ext.alloc w2 (bS r xa xn xc ya yn yc ra rn rc)));have HLW:=ae (hlr.ext (Ext.alloc w2 (bS r xa xn xc ya yn yc ra rn rc)));have HLR:=ae (hlr.here.ext (Ext.alloc w2 (bS r xa xn xc ya yn yc ra rn rc)));have HCK:=ae (fun (W':World) (hx:Ext (w2.alloc (bS r xa xn xc ya yn yc ra rn rc)) W')=>pw (H.out.ext (X3.out.trans hx)) (HLR.out.ext hx) HOK.out);obtain ⟨ck,hck⟩:∃ c,c=aH aK A B C r:=⟨_,rfl⟩;have HRW2:=ae (show bV aK A B C=if ck=true then r else aL 4 by rw [HRW.out,hck]);simp only [<-hck] at HCK;have HBR:=ae (show (w2.alloc (bS r xa xn xc ya yn yc ra rn rc)).heap[w2.heap.size]?=some (bS r xa xn xc ya yn yc ra rn rc) from aj _ _ _ rfl);obtain ⟨WR,hWR⟩:∃ x,x=w2.alloc (bS r xa xn xc ya yn yc ra rn rc):=⟨_,rfl⟩;obtain ⟨gr,hgr⟩:∃ x,x=w2.heap.size:=⟨_,rfl⟩;rw [<-hWR,<-hgr] at HBR;rw [<-hWR] at X3 HLR HLW;simp only [<-hWR] at HCK;obtain ⟨rs,rX,rY,rr,⟨rv1,rv2⟩,rp⟩:=r;clear hlr hck;go_upto_region 4 with fail;rw [<-hWR,<-hgr];clear hWR hgr;have p0:=al (X3.out.blk HTB.out);have p1:=am (X3.out.blk HTB.out);have p2:=ap (X3.out.blk HTB.out);obtain ⟨q0,q1,q2,q3,q4,q5,q6,qf⟩:=lbox HBR.out;go_wp2_with fail;refine (HCK.out _ (Ext.refl _)).mono ?_;rintro e w4 ⟨rfl,hx⟩;have X4:=ae (X3.out.trans hx);have HLW4:=ae (HLW.out.ext hx);obtain ⟨l0,l1,l2,l3,l4,l5,l6,lf⟩:=lbox (X4.out.blk HGB.out)
    have HBR4:=ae (hx.blk HBR.out);clear hx p0 p1 p2 q0 q1 q2 q3 q4 q5 q6 qf;cases ck
    ·go_wp2_with fail;refine bodyPost_ret (v:=lrW (aL 4) none 0 0 none 0 0 none 0 0) (by simp [results,Tryz.results134,go_sem,l0,l1,l2,l3,l4,l5,l6,lf,aL]) rfl ⟨?_,(HX0.out.trans X4.out).set7 (Nat.le_succ _) _ _ _ _ _ _ _⟩;rw [HRW2.out];exact LrR.zero _ _ _
    ·obtain ⟨q0,q1,q2,q3,q4,q5,q6,qf⟩:=lbox HBR4.out;have hs1:=X1.out.size;have hsw:=HSW.out;go_wp2_with fail;refine bodyPost_ret (v:=lrW ⟨rs,rX,rY,rr,(rv1,rv2),rp⟩ xa xn xc ya yn yc ra rn rc) (by simp [results,Tryz.results134,go_sem,l0,l1,l2,l3,l4,l5,l6,lf]) rfl ⟨?_,(HX0.out.trans X4.out).set7 (Nat.le_succ _) _ _ _ _ _ _ _⟩;rw [HRW2.out];exact ⟨xa,xn,xc,ya,yn,yc,ra,rn,rc,rfl,(HLW4.out.keep (by simp) fun k hk _=>bF _ (by omega) _ _ _ _ _ _ _).mono (by omega)⟩
end
end Go.Proofs.YthjjfkeacobikaaGreat
