import Derived.Test.YthjjfkeacobikaaGreatPuAllG41
set_option linter.unusedVariables false
set_option linter.unusedSimpArgs false
namespace Go.Proofs.YthjjfkeacobikaaGreat
set_option maxRecDepth 100000
open Go.RowKit
theorem rawS_len {A:List (List Int)} {B:List Int} {C:List (Int × Int)} {r:LpR} (h:rawS A B C=some r):r.X.length<=C.length:=by
 unfold rawS at h;cases e1:aO (dm C.length B.length) 1000 (bC A B C.length) with
 | none=>rw [e1] at h;cases h
 | some p1 =>
   rw [e1] at h;simp only [Option.bind_some] at h
   split at h
   ·cases h;simp
   ·cases e2:aY C.length (p1.t,p1.left) B.length with
    | none=>rw [e2] at h;cases h
    | some s =>
      rw [e2] at h;simp only [Option.bind_some] at h;rw [Option.map_eq_some_iff] at h;obtain ⟨p2,_,h⟩:=h
      split at h <;> subst h <;> simp only [List.length_take] <;> omega
section
variable {w:World} {a:Option Addr} {na ca:Nat} {b:Option Addr} {nb cb:Nat} {c:Option Addr} {nc cc:Nat} {A:List (List Int)} {B:List Int} {C:List (Int × Int)}
set_option maxHeartbeats 16000000 in
theorem qe (h:LpC w a na ca b nb cb c nc cc A B C) :
 Calls Tryz.prog 85 #[lpW a na ca b nb cb c nc cc] w fun e w'=>LrR w' w.heap.size e (ef A B C)/\Ext w w':=by
 have hx0:=(Ext.alloc w (bm a na ca b nb cb c nc cc)).trans (Ext.alloc _ lrZ);obtain ⟨W,hW⟩:∃ W,W=(w.alloc (bm a na ca b nb cb c nc cc)).alloc lrZ:=⟨_,rfl⟩;rw [<-hW] at hx0;have HX0:=ae hx0;have H:=ae (h.ext hx0);have HGB:=ae (show W.heap[w.heap.size+1]?=some (.cells #[.int .i64 0,.slice none 0 0,.slice none 0 0,.slice none 0 0,.int .i64 0,.int .i64 0,.int .i64 0] 113 (0,0)) by rw [hW];exact aj _ _ _ (by simp));have HTB:=ae (show W.heap[w.heap.size]?=some (.cells #[.slice a na ca,.slice b nb cb,.slice c nc cc] 109 (0,0)) by rw [hW,bz _ _ _ (by simp)];exact aj _ _ _ rfl);have HSW:=ae (show W.heap.size=w.heap.size+1+1 by rw [hW];simp);have HV:=ae (dA H.out);cases hok:okLP A B C
 ·rw [hok] at HV;have HR:=ae (show ef A B C=aL 0 by unfold ef;rw [hok];rfl);clear h hok hx0;go_enter Tryz.func85,Tryz.ntmps85
  go_upto_region 1 with fail;rw [<-hW];clear hW;have p0:=al HTB.out;have p1:=am HTB.out;have p2:=ap HTB.out;go_wp2_with fail;refine HV.out.mono ?_;rintro e w1 ⟨rfl,hx⟩;have X1:=ae hx;obtain ⟨l0,l1,l2,l3,l4,l5,l6,lf⟩:=lbox (X1.out.blk HGB.out);clear hx p0 p1 p2;go_wp2_with fail;refine bodyPost_ret (v:=lrW (aL 0) none 0 0 none 0 0 none 0 0) (by simp [results,Tryz.results85,go_sem,l0,l1,l2,l3,l4,l5,l6,lf,aL]) rfl ⟨?_,(HX0.out.trans X1.out).set7 (Nat.le_succ _) _ _ _ _ _ _ _⟩;rw [HR.out];exact LrR.zero _ _ _
 ·rw [hok] at HV;obtain ⟨r1,r2,r3,r4,r5,r6⟩:=cg h hok;subst r3;have HOK:=ae hok;have HRW:=ae (show ef A B C=match rawS A B C with|none=>aL 4|some r=>if aH aX A B C r=true then r else aL 4 by unfold ef;rw [if_pos hok];cases rawS A B C <;> rfl);have HST:=ae (fun (w':World) (hx:Ext W w')=>gP (H.out.ext hx) HOK.out);obtain ⟨o,ho⟩:∃ o,o=rawS A B C:=⟨_,rfl⟩;rw [<-ho] at HRW;have HXL:=ae (fun (r:LpR) (e:o=some r)=>show r.X.length<=nc by have:=rawS_len (ho.symm.trans e);rw [show C.length=nc from h.c.hlen] at this;exact this);have HSV:=ae (fun (w':World) (S:Nat) (vs:List Value) (ra:Option Addr) (rc:Nat) (ba:Option Addr) (bc:Nat) (hx:Ext W w') (hS:W.heap.size<=S) (hw:bD w' S a nb ca b nb cb c nc cc ra nb rc ba nb bc vs (bC A B nc) 0 false)=>qp H.out HOK.out hx hS hw);simp only [<-ho] at HSV;have HTL:=ae (show (bC A B nc).rows.length=nb/\(bC A B nc).basis.length=nb by unfold bC;simp [show A.length=nb from h.a.hlen]);clear h hok ho r4 r5 r6 hx0;go_enter Tryz.func85,Tryz.ntmps85
  go_upto_region 1 with fail;rw [<-hW];clear hW;have p0:=al HTB.out;have p1:=am HTB.out;have p2:=ap HTB.out;go_wp2_with fail;refine HV.out.mono ?_;rintro e w1 ⟨rfl,hx⟩;have X1:=ae hx;clear hx p0 p1 p2;have p0:=al (X1.out.blk HTB.out);have p1:=am (X1.out.blk HTB.out);have p2:=ap (X1.out.blk HTB.out);go_upto_region 3 with fail
  go_cut [3] (fun s3 wx=>∃ (S:Nat) (vs:List Value) (ra:Option Addr) (rc:Nat) (ba:Option Addr) (bc:Nat),s3=.pointer (some ⟨S,0,none⟩)/\Hid (Ext W wx)/\Hid (W.heap.size<=S)/\Hid (bD wx S a nb ca b nb cb c nc cc ra nb rc ba nb bc vs (bC A B nc) 0 false))
  case first =>
   have hk2:Ext w1 w1.drew:=Ext.drew w1;have HKEEP:=ae (fun (w':World) (h:Ext w1 w')=>(⟨h.cellSome p0,h.cellSome p1,h.cellSome p2,h⟩:w'.cell? ⟨w.heap.size,0,none⟩=some (.slice a nb ca)/\w'.cell? ⟨w.heap.size,1,none⟩=some (.slice b nb cb)/\w'.cell? ⟨w.heap.size,2,none⟩=some (.slice c nc cc)/\Ext w1 w'));refine wp_region_held_drew (S:=(fun w'=>w'.cell? ⟨w.heap.size,0,none⟩=some (.slice a nb ca)/\w'.cell? ⟨w.heap.size,1,none⟩=some (.slice b nb cb)/\w'.cell? ⟨w.heap.size,2,none⟩=some (.slice c nc cc)/\Ext w1 w')) (by kernel_rfl) ?_ (fun hHeld=>?_)
   ·exact HKEEP.out _ hk2
   refine tk 0 ?_;refine tk 1 ?_;refine rd (i:=2) (h:=fun K hK=>?_);go_simp
   (go_at_call 160;refine (HST.out _ (X1.out.trans hk2)).mono ?_;rintro e w3 ⟨⟨va,vb,vs,rfl,ho3⟩,hx3⟩;have hk2:=hk2.trans hx3;obtain ⟨a7,n7,c7,rfl,HN7⟩:=ho3.a.var;obtain ⟨a8,n8,c8,rfl,HN8⟩:=ho3.b.var)
   go_wp2_with fail;refine hK.out _ _ ?_ (fun hHeld=>?_)
   ·exact HKEEP.out _ hk2
   clear hK K
   try simp only [Act.put,sA,sB,sC]
   refine tk 3 ?_;have hk3:=hk2.trans (Ext.alloc w3 (.cells #[.slice a nb ca,.slice b nb cb,.slice c nc cc,.slice a7 n7 c7,.slice a8 n8 c8,.int .i64 (nc:Int),.int .i64 0,.bool false] 163));refine rd (i:=4) (h:=fun K hK=>?_);go_simp;refine hK.out _ _ ?_ (fun hHeld=>?_)
   ·exact HKEEP.out _ hk3
   clear hK K
   try simp only [Act.put,sA,sB,sC]
   refine tk 5 ?_;refine wpAnyH_done (by kernel_rfl) ?_ _;have hn7:nb=n7:=by have h1:=ho3.tbc.rows.hlen;rw [HTL.out.1] at h1;exact h1
   have hn8:nb=n8:=by have h1:=ho3.tbc.basis.hlen;rw [HTL.out.2] at h1;exact h1
   subst hn7;subst hn8;go_wp2_with fail;go_meet;exact ⟨_,vs,a7,c7,a8,c8,rfl,ae (X1.out.trans hk3),ae (X1.out.trans hk2).size,ae ⟨aj _ _ _ rfl,(ho3.ext (Ext.alloc _ _)).mono (Nat.zero_le _)⟩⟩
  obtain ⟨S,vs,ra,rc,ba,bc,rfl,HX3,HSS,HW3⟩:=hcut;clear p0 p1 p2;have HSO:=ae (HSV.out _ S vs ra rc ba bc HX3.out HSS.out HW3.out);go_wp2_with fail;refine HSO.out.mono ?_;rintro e w5 ⟨hm5,hs⟩;have X5:=ae (show Ext W w5 from hm5.ext HX3.out HSS.out);have HM5:=ae hm5;clear hm5;cases o with
  | none =>
    obtain ⟨r,xa,xn,xc,ya,yn,yc,za,zn,zc,rfl,ra5,rn5,rc5,ba5,bn5,bc5,vs5,t5,n5,hw5⟩:=hs;obtain ⟨rs,rX,rY,rr,⟨rv1,rv2⟩,rp⟩:=r;have XE:=ae (X5.out.trans (Ext.alloc w5 (bS ⟨rs,rX,rY,rr,(rv1,rv2),rp⟩ xa xn xc ya yn yc za zn zc)));have HWE:=ae (hw5.ext (Ext.alloc w5 (bS ⟨rs,rX,rY,rr,(rv1,rv2),rp⟩ xa xn xc ya yn yc za zn zc)));have HBX:=ae (show (w5.alloc (bS ⟨rs,rX,rY,rr,(rv1,rv2),rp⟩ xa xn xc ya yn yc za zn zc)).heap[w5.heap.size]?=some (bS ⟨rs,rX,rY,rr,(rv1,rv2),rp⟩ xa xn xc ya yn yc za zn zc) from aj _ _ _ rfl);obtain ⟨E,hE⟩:∃ x,x=w5.alloc (bS ⟨rs,rX,rY,rr,(rv1,rv2),rp⟩ xa xn xc ya yn yc za zn zc):=⟨_,rfl⟩;obtain ⟨gB,hgB⟩:∃ x,x=w5.heap.size:=⟨_,rfl⟩;rw [<-hE] at XE HWE;rw [<-hE,<-hgB] at HBX;have hgW:W.heap.size<=gB:=by rw [hgB];exact X5.out.size
    go_upto_region 5 with fail;rw [<-hE,<-hgB];clear hE hgB hw5;obtain ⟨l0,l1,l2,c0,c1,c2,c3,c4,cf⟩:=HWE.out.cells;obtain ⟨q0,q1,q2,q3,q4,q5,q6,qf⟩:=lbox HBX.out;have hne:gB ≠ S:=fun e=>gG HBX.out HWE.out.box (by decide) e
    have hlt1:=lt_of_block HBX.out;have hlt2:=lt_of_block HWE.out.box;go_upto_region 6 with fail;obtain ⟨w7,hw7⟩:∃ x,x=E.setCell ⟨gB,6,none⟩ (.int .i64 (n5:Int)):=⟨_,rfl⟩;have X7:=ae (show Ext W w7 by rw [hw7];exact XE.out.setCell (p:=⟨gB,6,none⟩) hgW _);have c7:w7.cell? ⟨S,7,none⟩=some (.bool true):=by
     have hbb:w7.heap[S]?=E.heap[S]?:=by rw [hw7];exact heap_setCell_other _ _ _ _ (fun e=>hne e.symm)
     rw [cell_of_row w7 S _ _ _ _ (hbb.trans HWE.out.box)];rfl
    rw [<-hw7];clear hw7 l0 l1 l2 c0 c1 c2 c3 c4 cf q0 q1 q2 q3 q4 q5 q6 qf;obtain ⟨l0,l1,l2,l3,l4,l5,l6,lf⟩:=lbox (X7.out.blk HGB.out);go_wp2_with fail;refine bodyPost_ret (v:=lrW (aL 4) none 0 0 none 0 0 none 0 0) (by simp [results,Tryz.results85,go_sem,l0,l1,l2,l3,l4,l5,l6,lf,aL]) rfl ⟨?_,(HX0.out.trans X7.out).set7 (Nat.le_succ _) _ _ _ _ _ _ _⟩;rw [HRW.out];exact LrR.zero _ _ _
  | some r =>
    obtain ⟨xa,xn,xc,ya,yn,yc,za,zn,zc,rfl,hlr,ra5,rn5,rc5,ba5,bn5,bc5,vs5,t5,n5,hw5,hnp⟩:=hs;obtain ⟨rs,rX,rY,rr,⟨rv1,rv2⟩,rp⟩:=r;simp only at hnp;have XE:=ae (X5.out.trans (Ext.alloc w5 (bS ⟨rs,rX,rY,rr,(rv1,rv2),0⟩ xa xn xc ya yn yc za zn zc)));have HWE:=ae (hw5.ext (Ext.alloc w5 (bS ⟨rs,rX,rY,rr,(rv1,rv2),0⟩ xa xn xc ya yn yc za zn zc)));have HLE:=ae (hlr.ext (Ext.alloc w5 (bS ⟨rs,rX,rY,rr,(rv1,rv2),0⟩ xa xn xc ya yn yc za zn zc)));have HBX:=ae (show (w5.alloc (bS ⟨rs,rX,rY,rr,(rv1,rv2),0⟩ xa xn xc ya yn yc za zn zc)).heap[w5.heap.size]?=some (bS ⟨rs,rX,rY,rr,(rv1,rv2),0⟩ xa xn xc ya yn yc za zn zc) from aj _ _ _ rfl);have HS5:=ae (show w5.heap.size<(w5.alloc (bS ⟨rs,rX,rY,rr,(rv1,rv2),0⟩ xa xn xc ya yn yc za zn zc)).heap.size by simp);have HL5:=ae hlr;obtain ⟨E,hE⟩:∃ x,x=w5.alloc (bS ⟨rs,rX,rY,rr,(rv1,rv2),0⟩ xa xn xc ya yn yc za zn zc):=⟨_,rfl⟩;obtain ⟨gB,hgB⟩:∃ x,x=w5.heap.size:=⟨_,rfl⟩;have HEX:=ae (show Ext w5 E by rw [hE];exact Ext.alloc _ _);rw [<-hE] at XE HWE HLE HS5;rw [<-hE,<-hgB] at HBX;have hgW:W.heap.size<=gB:=by rw [hgB];exact X5.out.size
    have HGS:=ae hgB;go_upto_region 5 with fail;rw [<-hE,<-hgB];clear hE hgB hw5 hlr;obtain ⟨l0,l1,l2,c0,c1,c2,c3,c4,cf⟩:=HWE.out.cells;obtain ⟨q0,q1,q2,q3,q4,q5,q6,qf⟩:=lbox HBX.out;have hne:gB ≠ S:=fun e=>gG HBX.out HWE.out.box (by decide) e
    have hlt1:=lt_of_block HBX.out;have hlt2:=lt_of_block HWE.out.box;rw [hnp] at c3;clear hnp;go_upto_region 6 with fail;obtain ⟨w7,hw7⟩:∃ x,x=E.setCell ⟨gB,6,none⟩ (.int .i64 rp):=⟨_,rfl⟩;have X7:=ae (show Ext W w7 by rw [hw7];exact XE.out.setCell (p:=⟨gB,6,none⟩) hgW _);have c7:w7.cell? ⟨S,7,none⟩=some (.bool false):=by
     have hbb:w7.heap[S]?=E.heap[S]?:=by rw [hw7];exact heap_setCell_other _ _ _ _ (fun e=>hne e.symm)
     rw [cell_of_row w7 S _ _ _ _ (hbb.trans HWE.out.box)];rfl
    have HB7:=ae (show w7.heap[gB]?=some (.cells #[.int .i64 rs,.slice xa xn xc,.slice ya yn yc,.slice za zn zc,.int .i64 rv1,.int .i64 rv2,.int .i64 rp] 113 (0,0)) by
     rw [hw7,heap_setCell_same E gB 6 _ _ (.int .i64 rp) HBX.out];rfl)
    have HK7:=ae (show ∀ k,k<w5.heap.size->w7.heap[k]?=w5.heap[k]? from fun k hk=>by
     rw [hw7];exact (heap_setCell_other _ _ _ _ (by have:=HGS.out;show k ≠ gB;omega)).trans (HEX.out.block k hk))
    have HL7:=ae (show LrOw w7 W.heap.size xa xn xc ya yn yc za zn zc ⟨rs,rX,rY,rr,(rv1,rv2),rp⟩ from (by
     have h1:=HL5.out.keep (w':=w7) (by rw [hw7];have:=HEX.out.size;simpa using this) (fun k hk hk2=>by rw [hw7];exact (heap_setCell_other _ _ _ _ (by have:=HGS.out;show k ≠ gB;omega)).trans (HEX.out.block k hk2));have h2:=h1.mono (base':=W.heap.size) HX3.out.size
     exact ⟨h2.x,h2.y,h2.ray⟩))
    rw [<-hw7];clear hw7 l0 l1 l2 c0 c1 c2 c3 c4 cf q0 q1 q2 q3 q4 q5 q6 qf;have p0:=al (X7.out.blk HTB.out);have p1:=am (X7.out.blk HTB.out);have p2:=ap (X7.out.blk HTB.out);obtain ⟨q0,q1,q2,q3,q4,q5,q6,qf⟩:=lbox HB7.out;have HCK:=ae (qb (H.out.ext X7.out) HL7.out.here HOK.out);obtain ⟨ck,hck⟩:∃ c,c=aH aX A B C ⟨rs,rX,rY,rr,(rv1,rv2),rp⟩:=⟨_,rfl⟩;have HRW2:=ae (show ef A B C=if ck=true then ⟨rs,rX,rY,rr,(rv1,rv2),rp⟩ else aL 4 by rw [HRW.out,hck]);rw [<-hck] at HCK;clear hck;go_wp2_with fail;refine HCK.out.mono ?_;rintro e w8 ⟨rfl,hx⟩;have X8:=ae (X7.out.trans hx);have HL8:=ae (HL7.out.ext hx);have HB8:=ae (hx.blk HB7.out);have hs57:w5.heap.size<=w7.heap.size:=by have h1:=lt_of_block HB7.out;have h2:=HGS.out;omega
    have HK8:=ae (show ∀ k,k<w5.heap.size->w8.heap[k]?=w5.heap[k]? from fun k hk=>(hx.block k (by omega)).trans (HK7.out k hk));have hs58:w5.heap.size<=w8.heap.size:=by have:=hx.size;omega
    clear hx p0 p1 p2 q0 q1 q2 q3 q4 q5 q6 qf c7;cases ck
    ·obtain ⟨l0,l1,l2,l3,l4,l5,l6,lf⟩:=lbox (X8.out.blk HGB.out);go_wp2_with fail;refine bodyPost_ret (v:=lrW (aL 4) none 0 0 none 0 0 none 0 0) (by simp [results,Tryz.results85,go_sem,l0,l1,l2,l3,l4,l5,l6,lf,aL]) rfl ⟨?_,(HX0.out.trans X8.out).set7 (Nat.le_succ _) _ _ _ _ _ _ _⟩;rw [HRW2.out];exact LrR.zero _ _ _
    ·obtain ⟨q0,q1,q2,q3,q4,q5,q6,qf⟩:=lbox HB8.out;have hxn:xn<=1099511627776:=by
      have h1:=HL8.out.here.x.hlen;have h2:=HXL.out _ rfl;simp only at h1 h2;omega
     have HCP:=ae (hO HL8.out.here.x hxn);go_wp2_with fail;refine HCP.out.mono ?_;rintro e w9 ⟨⟨v9,rfl,ho9⟩,hx⟩;obtain ⟨a9,n9,c9,rfl,HN9⟩:=ho9.var;have X9:=ae (X8.out.trans hx);have HL9:=ae (HL8.out.ext hx);have HB9:=ae (hx.blk HB8.out);have HK9:=ae (show ∀ k,k<w5.heap.size->w9.heap[k]?=w5.heap[k]? from fun k hk=>(hx.block k (by omega)).trans (HK8.out k hk));have hs59:w5.heap.size<=w9.heap.size:=by have:=hx.size;omega
     have HO9:=ae ho9;have hlt9:=lt_of_block HB9.out;have hsz8:=X8.out.size;clear ho9 q0 q1 q2 q3 q4 q5 q6 qf;obtain ⟨q0,q1,q2,q3,q4,q5,q6,qf⟩:=lbox HB9.out;have hg8:=lt_of_block HB8.out;clear hx;go_upto_region 9 with fail;obtain ⟨wA,hwA⟩:∃ x,x=w9.setCell ⟨gB,1,none⟩ (.slice a9 n9 c9):=⟨_,rfl⟩;have XA:=ae (show Ext W wA by rw [hwA];exact X9.out.setCell (p:=⟨gB,1,none⟩) hgW _)
     have HBA:=ae (show wA.heap[gB]?=some (.cells #[.int .i64 rs,.slice a9 n9 c9,.slice ya yn yc,.slice za zn zc,.int .i64 rv1,.int .i64 rv2,.int .i64 rp] 113 (0,0)) by
      rw [hwA,heap_setCell_same w9 gB 1 _ _ (.slice a9 n9 c9) HB9.out];rfl)
     have HOA:=ae (show OwnR wA w8.heap.size (.slice a9 n9 c9) rX by
      rw [hwA];exact HO9.out.keep fun k hk=>heap_setCell_other _ _ _ _ (by have:=(HO9.out.lt k hk).1;show k ≠ gB;omega))
     have HKA:=ae (show ∀ k,k<w5.heap.size->wA.heap[k]?=w5.heap[k]? from fun k hk=>by
      rw [hwA];exact (heap_setCell_other _ _ _ _ (by have:=HGS.out;show k ≠ gB;omega)).trans (HK9.out k hk))
     have hs5A:w5.heap.size<=wA.heap.size:=by rw [hwA];simpa using hs59
     rw [<-hwA];clear hwA q0 q1 q2 q3 q4 q5 q6 qf;obtain ⟨q0,q1,q2,q3,q4,q5,q6,qf⟩:=lbox HBA.out;obtain ⟨l0,l1,l2,l3,l4,l5,l6,lf⟩:=lbox (XA.out.blk HGB.out);have hsw:=HSW.out;have hs3:=HX3.out.size;go_wp2_with fail;refine bodyPost_ret (v:=lrW ⟨rs,rX,rY,rr,(rv1,rv2),rp⟩ a9 n9 c9 ya yn yc za zn zc) (by simp [results,Tryz.results85,go_sem,l0,l1,l2,l3,l4,l5,l6,lf]) rfl ⟨?_,(HX0.out.trans XA.out).set7 (Nat.le_succ _) _ _ _ _ _ _ _⟩;rw [HRW2.out];refine ⟨a9,n9,c9,ya,yn,yc,za,zn,zc,rfl,?_,?_,?_⟩
     ·exact (HOA.out.keep fun i hi=>bF _ (by have:=(HOA.out.lt i hi).1;omega) _ _ _ _ _ _ _).onRats (by omega)
     ·exact (HL5.out.y.keep (by simpa using hs5A) fun k hk hk2=>(bF _ (by omega) _ _ _ _ _ _ _).trans (HKA.out k hk2)).mono (by omega)
     ·exact (HL5.out.ray.keep (by simpa using hs5A) fun k hk hk2=>(bF _ (by omega) _ _ _ _ _ _ _).trans (HKA.out k hk2)).mono (by omega)
end
end Go.Proofs.YthjjfkeacobikaaGreat
