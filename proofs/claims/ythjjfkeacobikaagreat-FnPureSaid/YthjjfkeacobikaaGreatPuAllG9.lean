import Derived.Test.YthjjfkeacobikaaGreatPuAllG8
set_option linter.unusedVariables false
set_option linter.unusedSimpArgs false
namespace Go.Proofs.YthjjfkeacobikaaGreat
set_option maxRecDepth 100000
open Go.RowKit
theorem ik {α:Type} {p:α->Bool} {l:List α} {k:Nat} {d:α} (h:k<l.length):(l.take (k+1)).all p=((l.take k).all p&&p (l[k]?.getD d)):=by
 rw [List.take_succ_eq_append_getElem h,List.all_append,List.getElem?_eq_getElem h];simp
theorem fm {α:Type} {p:α->Bool} {l:List α} {k:Nat} {d:α} (h:k<l.length) (hb:p (l[k]?.getD d)=false):l.all p=false:=by
 rw [List.all_eq_false];exact ⟨l[k],List.getElem_mem h,by rw [List.getElem?_eq_getElem h] at hb;simpa using hb⟩
set_option maxHeartbeats 1000000 in
theorem lu {w:World} {a:Option Addr} {n cap:Nat} {l:List Int} (h:Ints w a n cap l) :
 Calls Tryz.prog 222 #[.slice a n cap] w fun e w'=>e=.returned (.bool (l.all (inB · (-5000) 5000)))/\w=w':=by
 have hcap:=h.hcap;have hmax:=h.hmax;have HL:=ae h.hlen;have HI:=ae h;clear h;go_enter Tryz.func222,Tryz.ntmps222
 go_wp2_with fail
 go_loopg [3] n (fun gk ii wr=>∃ k:Nat,Hid (gk+k=n)/\ii=.int .i64 (k:Int)/\Hid ((l.take k).all (inB · (-5000) 5000)=true)/\w=wr)
 case atStart=>exact ⟨0,ae (by omega),rfl,ae rfl,rfl⟩
 case round =>
  obtain ⟨k,HK,rfl,HA,rfl⟩:=hrel;by_cases hlt:k<n
  ·obtain ⟨b,off,rfl,hc0⟩:=HI.out.at hlt;obtain ⟨x,hx⟩:∃ x,x=l[k]?.getD 0:=⟨_,rfl⟩;rw [<-hx] at hc0;have HC:=ae (bv x (-5000) 5000 w);cases hb:inB x (-5000) 5000
   all_goals
    rw [hb] at HC
   ·have HF:=ae (show l.all (inB · (-5000) 5000)=false from fm (d:=0) (by rw [HL.out];exact hlt) (by rw [<-hx];exact hb));clear hx hb;go_wp2_with (first|(go_at_call 95;refine HC.out.mono ?_;rintro e w2 ⟨rfl,rfl⟩));go_ret;exact ⟨ag HF.out.symm,rfl⟩
   ·have HT:=ae (show (l.take (k+1)).all (inB · (-5000) 5000)=true by rw [ik (d:=0) (by rw [HL.out];exact hlt),HA.out,<-hx,hb];rfl);clear hx hb;go_wp2_with (first|(go_at_call 95;refine HC.out.mono ?_;rintro e w2 ⟨rfl,rfl⟩))
    go_roundg (gk-1)
    case measure=>have:=HK.out;omega
    case rel=>exact ⟨k+1,ae (by have:=HK.out;omega),by go_num,HT,rfl⟩
  ·have HT:=ae (show l.take k=l from List.take_of_length_le (by rw [HL.out];have:=HK.out;omega));go_wp2_with fail;go_ret;exact ⟨ag (by have:=HA.out;rw [HT.out] at this;exact this.symm),rfl⟩
section
variable {w:World} {a:Option Addr} {na ca:Nat} {b:Option Addr} {nb cb:Nat} {c:Option Addr} {nc cc:Nat} {A:List (List Int)} {B:List Int} {C:List (Int × Int)}
theorem ie {A:List (List Int)} {B:List Int} {C:List (Int × Int)} (h:A.all (dp C.length)=false):okLP A B C=false:=by rw [gO,h];simp
set_option maxHeartbeats 4000000 in
theorem dA (h:LpC w a na ca b nb cb c nc cc A B C) :
 Calls Tryz.prog 159 #[lpW a na ca b nb cb c nc cc] w fun e w'=>e=.returned (.bool (okLP A B C))/\Ext w w':=by
 have hx0:=Ext.alloc w (bm a na ca b nb cb c nc cc);have HX0:=ae hx0;have H:=ae (h.ext hx0);have HE:=ae (gO A B C);have HTB:=ae (show (w.alloc (bm a na ca b nb cb c nc cc)).heap[w.heap.size]?=some (.cells #[.slice a na ca,.slice b nb cb,.slice c nc cc] 109 (0,0)) from aj _ _ _ rfl);have ha1:=h.a.hcap;have ha2:=h.a.hmax;have hb1:=h.b.hcap;have hb2:=h.b.hmax;have hc1:=h.c.hcap;have hc2:=h.c.hmax;have HLA:=ae h.a.hlen;have HLB:=ae h.b.hlen;have HLC:=ae h.c.hlen;clear h hx0;go_enter Tryz.func159,Tryz.ntmps159
 go_upto_region 1 with fail;obtain ⟨W,hW⟩:∃ x,x=w.alloc (bm a na ca b nb cb c nc cc):=⟨_,rfl⟩;rw [<-hW] at HX0 H HTB;rw [<-hW];clear hW;go_wp2_with fail
 go_loopg [3] na (fun gk ii wr=>∃ k:Nat,Hid (gk+k=na)/\ii=.int .i64 (k:Int)/\Hid ((A.take k).all (dp nc)=true)/\Hid (Ext W wr))
 case atStart=>exact ⟨0,ae (by omega),rfl,ae rfl,ae (Ext.refl _)⟩
 case round =>
  obtain ⟨g1,h_g1⟩:∃ x,x=gk:=⟨_,rfl⟩;subst h_g1;obtain ⟨wr1,h_wr1⟩:∃ x,x=wr:=⟨_,rfl⟩;subst h_wr1;obtain ⟨k,HK,rfl,HA,HX⟩:=hrel;have p0:=al (HX.out.blk HTB.out);have p2:=ap (HX.out.blk HTB.out);by_cases hlt:k<na
  ·obtain ⟨gb,goff,ra,rn,rc,hga,hgc,hrow⟩:=(H.out.ext HX.out).a.at hlt;subst hga;have HLR:=ae hrow.hlen;have hrn:=hrow.hcap;have hrm:=hrow.hmax;have HKA:=ae (show k<A.length by rw [HLA.out];exact hlt);have HROW:=ae hrow;have hk0:(0:Int)<=(k:Int):=by omega
   have hk1:(k:Int)<(na:Int):=by omega
   clear hrow;go_upto_region 4 with fail;have hk2:Ext wr1 wr1.drew:=Ext.drew wr1;by_cases hl:rn=nc
   ·subst hl;have hne:((rn:Int) != (rn:Int))=false:=by simp
    obtain ⟨sm,hsm⟩:∃ s,s=(A[k]?.getD []).all (inB · (-5000) 5000):=⟨_,rfl⟩;have HRI:=ae (show dp rn (A[k]?.getD [])=sm by unfold dp;rw [HLR.out,hsm];simp);have HSM:=ae (fun (W':World) (hx:Ext wr1 W')=>lu (HROW.out.ext hx));simp only [<-hsm] at HSM;clear hsm;refine wp_region_held_drew (S:=(fun w'=>w'.cell? ⟨w.heap.size,0,none⟩=some (.slice (some ⟨gb,goff,none⟩) na ca)/\w'.cell? ⟨w.heap.size,2,none⟩=some (.slice c rn cc)/\w'.cell? ⟨gb,goff+k,none⟩=some (.slice ra rn rc)/\Ext wr1 w')) (by kernel_rfl) ?_ (fun hHeld=>?_)
    ·exact ⟨hk2.cellSome p0,hk2.cellSome p2,hk2.cellSome hgc,hk2⟩
    refine tk 0 ?_;refine tk 1 ?_;refine tk 2 ?_;refine tk 3 ?_;refine tk 4 ?_;refine tk 5 ?_;refine tk 6 ?_;refine tk 7 ?_;refine tk 8 ?_;refine tk 9 ?_;refine tk 10 ?_;refine tk 11 ?_;refine tk 12 ?_;refine tk 13 ?_;refine tk 14 ?_;refine tk 15 ?_;refine rd (i:=16) (h:=fun K hK=>?_);go_simp
    (go_at_call 222;refine (HSM.out _ hk2).mono ?_;rintro e w3 ⟨rfl,rfl⟩)
    go_wp2_with fail;refine hK.out _ _ ?_ (fun hHeld=>?_)
    ·exact ⟨hk2.cellSome p0,hk2.cellSome p2,hk2.cellSome hgc,hk2⟩
    clear hK K
    try simp only [Act.put,sA,sB,sC]
    refine tk 17 ?_;refine tk 18 ?_;refine wpAnyH_done (by kernel_rfl) ?_ _;have HX2:=ae (HX.out.trans hk2);clear p0 p2 hgc hk2;cases sm
    ·have HF:=ae (show okLP A B C=false from ie (fo HKA.out (by rw [HLC.out];exact HRI.out)));go_wp2_with fail;go_ret;exact ⟨ag HF.out.symm,HX0.out.trans HX2.out⟩
    ·have HT:=ae (show (A.take (k+1)).all (dp rn)=true by rw [kJ HKA.out,HA.out,HRI.out];rfl);go_wp2_with fail
     go_roundg (g1-1)
     case measure=>have:=HK.out;omega
     case rel=>exact ⟨k+1,ae (by have:=HK.out;omega),by go_num,HT,HX2⟩
   ·have hne:((rn:Int) != (nc:Int))=true:=by simp;omega
    have HF:=ae (show okLP A B C=false from ie (fo HKA.out (by unfold dp;rw [HLR.out,HLC.out,decide_eq_false hl];rfl)));clear hl;refine wp_region_held_drew (S:=(fun w'=>w'.cell? ⟨w.heap.size,0,none⟩=some (.slice (some ⟨gb,goff,none⟩) na ca)/\w'.cell? ⟨w.heap.size,2,none⟩=some (.slice c nc cc)/\w'.cell? ⟨gb,goff+k,none⟩=some (.slice ra rn rc)/\Ext wr1 w')) (by kernel_rfl) ?_ (fun hHeld=>?_)
    ·exact ⟨hk2.cellSome p0,hk2.cellSome p2,hk2.cellSome hgc,hk2⟩
    refine tk 0 ?_;refine tk 1 ?_;refine tk 2 ?_;refine tk 3 ?_;refine tk 4 ?_;refine tk 5 ?_;refine tk 6 ?_;refine tk 7 ?_;refine tk 8 ?_;refine tk 9 ?_;refine tk 10 ?_;refine sk 11 ?_;refine sk 12 ?_;refine sk 13 ?_;refine sk 14 ?_;refine sk 15 ?_;refine sk 16 ?_;refine sk 17 ?_;refine tk 18 ?_;refine wpAnyH_done (by kernel_rfl) ?_ _;go_wp2_with fail;go_ret;exact ⟨ag HF.out.symm,HX0.out.trans (HX.out.trans hk2)⟩
  ·have hkn:na=k:=by have:=HK.out;omega
   subst hkn;have HT:=ae (show A.all (dp nc)=true by have:=HA.out;rwa [List.take_of_length_le (by rw [HLA.out];exact Nat.le_refl _)] at this);have p1:=am (HX.out.blk HTB.out)
   have HE2:=ae (show okLP A B C=(decide (nc<=70)&&(decide (na<=8)&&(decide (nb=na)&&(B.all (inB · (-5000) 5000)&&allV C)))) by
    rw [HE.out,HLA.out,HLB.out,HLC.out,HT.out];cases allV C <;> simp)
   by_cases h1:nc<=70
   ·by_cases h2:na<=8
    ·by_cases h3:nb=na
     ·subst h3;have hbb:((nb:Int) == (nb:Int))=true:=by simp
      have hle1:(nc:Int)<=70:=by omega
      have hle2:(nb:Int)<=8:=by omega
      have HSM:=ae (lu (H.out.ext HX.out).b);have HAV:=ae (hJ (H.out.ext HX.out).c);cases hs:B.all (inB · (-5000) 5000)
      ·have HF:=ae (show okLP A B C=false by rw [HE2.out,hs];simp);rw [hs] at HSM;clear hs;go_wp2_with fail;refine HSM.out.mono ?_;rintro e w3 ⟨rfl,rfl⟩;go_wp2_with fail;go_ret;exact ⟨ag HF.out.symm,HX0.out.trans HX.out⟩
      ·have HF:=ae (show okLP A B C=allV C by rw [HE2.out,hs,decide_eq_true h1,decide_eq_true h2,decide_eq_true rfl];rfl);rw [hs] at HSM;clear hs;go_wp2_with fail;refine HSM.out.mono ?_;rintro e w3 ⟨rfl,rfl⟩;go_wp2_with fail;refine HAV.out.mono ?_;rintro e w3 ⟨rfl,hx⟩;go_wp2_with fail;go_ret;exact ⟨ag HF.out.symm,HX0.out.trans (HX.out.trans hx)⟩
     ·have HF:=ae (show okLP A B C=false by rw [HE2.out,decide_eq_false h3];simp);have hbb:((nb:Int) == (na:Int))=false:=by simp;omega
      have hle1:(nc:Int)<=70:=by omega
      have hle2:(na:Int)<=8:=by omega
      go_wp2_with fail;go_ret;exact ⟨ag HF.out.symm,HX0.out.trans HX.out⟩
    ·have HF:=ae (show okLP A B C=false by rw [HE2.out,decide_eq_false h2];simp);have hle1:(nc:Int)<=70:=by omega
     have hle2:¬ (na:Int)<=8:=by omega
     go_wp2_with fail;go_ret;exact ⟨ag HF.out.symm,HX0.out.trans HX.out⟩
   ·have HF:=ae (show okLP A B C=false by rw [HE2.out,decide_eq_false h1];simp);have hle1:¬ (nc:Int)<=70:=by omega
    go_wp2_with fail;go_ret;exact ⟨ag HF.out.symm,HX0.out.trans HX.out⟩
end
end Go.Proofs.YthjjfkeacobikaaGreat
namespace Go.Proofs.YthjjfkeacobikaaGreat
set_option maxRecDepth 100000
open Go.RowKit
set_option maxHeartbeats 8000000 in
theorem jn {w:World} {a b:Option Addr} {n cap n' cap':Nat} {A B:List (Int × Int)} (h:Rats w a n cap A) (h':Rats w b n' cap' B) :
 Calls Tryz.prog 233 #[.slice a n cap,.slice b n' cap'] w fun e w'=>e=.returned (resR (optR (dotL A B)))/\Ext w w':=by
 have HL:=ae h.hlen;have HL':=ae h'.hlen;have hcap:=h.hcap;have hmax:=h.hmax;have hcap':=h'.hcap;have hmax':=h'.hmax;have hx0:=Ext.alloc w (.cells #[.int .i64 0,.int .i64 0] 43);have HIA:=ae (h.ext hx0);have HIB:=ae (h'.ext hx0);have HX0:=ae hx0;have HRB:=ae (show (w.alloc (.cells #[.int .i64 0,.int .i64 0] 43)).heap[w.heap.size]?=some (.cells #[.int .i64 0,.int .i64 0] 43 (0,0)) from aj _ _ _ rfl);clear h h' hx0;by_cases hne:n=n'
 ·subst hne;have HD:=ae (show dotL A B=dotN A B n by unfold dotL;rw [HL.out,HL'.out,if_pos rfl]);have hnn:((n:Int) != (n:Int))=false:=by simp
  go_enter Tryz.func233,Tryz.ntmps233
  go_wp2_with fail;refine (ce 0 _).mono ?_;rintro e w1 ⟨rfl,hx1⟩;have HX1:=ae hx1;have HB0:=ae (ah.new (Ext.refl w1) 0 1);have HRW:=ae (fun (w':World) (hx:Ext w1 w')=>(hx.block _ (by have:=lt_of_block HRB.out;have:=HX1.out.size;omega)).trans ((HX1.out.block _ (lt_of_block HRB.out)).trans HRB.out));have HXW:=ae (HX0.out.trans HX1.out);have hsw1:w.heap.size<w1.heap.size:=by have:=lt_of_block HRB.out;have:=HX1.out.size;omega
  clear hx1;go_wp2_with fail
  go_loopg [7] n (fun gk ii wr=>∃ (k:Nat) (p q:Int),Hid (gk+k=n)/\ii=.int .i64 (k:Int)/\Hid (ah w1 wr w1.heap.size p q)/\Hid (dotN A B k=some (p,q)))
  case atStart=>exact ⟨0,0,1,ae (by omega),rfl,HB0,ae rfl⟩
  case round =>
   obtain ⟨g1,h_g1⟩:∃ x,x=gk:=⟨_,rfl⟩;subst h_g1;obtain ⟨wr1,h_wr1⟩:∃ x,x=wr:=⟨_,rfl⟩;subst h_wr1;obtain ⟨k,p,q,HK,rfl,HB,HT⟩:=hrel;have hb0:=HB.out.c0;have hb1:=HB.out.c1;have hbl:=HB.out.lt;have hszb:=HB.out.ext.size;by_cases hlt:k<n
   ·obtain ⟨ab,aoff,ax,ay,ha,hax,hac0,hac1⟩:=(HIA.out.ext (HX1.out.trans HB.out.ext)).at hlt;obtain ⟨bb,boff,bx,by',hb,hbx,hbc0,hbc1⟩:=(HIB.out.ext (HX1.out.trans HB.out.ext)).at hlt;subst ha hb;obtain ⟨mx,my,one,hm⟩:∃ x y ok,mulR (ax,ay) (bx,by')=((x,y),ok):=⟨_,_,_,rfl⟩;have HM:=ae hm;obtain ⟨p2,q2,two,hs2⟩:∃ u v ok,addR (p,q) (mx,my)=((u,v),ok):=⟨_,_,_,rfl⟩;have HS2:=ae hs2;have HST:=ae (show dotN A B (k+1)=if one=true/\two=true then some (p2,q2) else none by rw [kP HT.out,hax,hbx,hm];simp only;rw [hs2]);clear hax hbx hm hs2;go_upto_region 7 with fail
    go_cut [8,9] (fun sx so wx=>∃ g:Nat,sx=.pointer (some ⟨g,0,none⟩)/\so=.bool one/\Hid (ah wr1 wx g mx my))
    case first =>
     have hk2:Ext wr1 wr1.drew:=Ext.drew wr1;have hka:Ext wr1 (wr1.alloc (.cells #[.int .i64 0,.int .i64 0] 43)).drew:=(Ext.alloc _ _).trans (Ext.drew _);have HKEEP:=ae (fun (w':World) (h:Ext wr1 w')=>(⟨h.cellSome hac0,h.cellSome hac1,h.cellSome hbc0,h.cellSome hbc1,h⟩:w'.cell? ⟨ab,aoff+k*2,none⟩=some (.int .i64 ax)/\w'.cell? ⟨ab,aoff+k*2+1,none⟩=some (.int .i64 ay)/\w'.cell? ⟨bb,boff+k*2,none⟩=some (.int .i64 bx)/\w'.cell? ⟨bb,boff+k*2+1,none⟩=some (.int .i64 by')/\Ext wr1 w'))
     go_region_held3 (fun w'=>w'.cell? ⟨ab,aoff+k*2,none⟩=some (.int .i64 ax)/\w'.cell? ⟨ab,aoff+k*2+1,none⟩=some (.int .i64 ay)/\w'.cell? ⟨bb,boff+k*2,none⟩=some (.int .i64 bx)/\w'.cell? ⟨bb,boff+k*2+1,none⟩=some (.int .i64 by')/\Ext wr1 w')
      (first
        | with_reducible exact HKEEP.out _ hk2
        | with_reducible exact HKEEP.out _ hka
        | with_reducible exact HKEEP.out _ ((hk2.setCell (by first|(simp;done)|(simp;omega)) _).setCell (by first|(simp;done)|(simp;omega)) _)
        | with_reducible exact HKEEP.out _ (hk2.trans (Ext.alloc _ _))
        | with_reducible exact HKEEP.out _ (hBB.put _ _).ext)
      (first
        | (go_at_call 211
           (with_reducible refine (mE ax ay bx by' _).mono ?_)
           rw [HM.out];rintro e w3 ⟨rfl,hx_w3⟩
           first|(with_reducible have hBB:=ah.grow hBB hx_w3)|(with_reducible have hBB:=ah.firstD hx_w3)|(with_reducible have hBB:=ah.laterD hk2 hx_w3)|skip
           first|(have b0_:=hBB.c0;have b1_:=hBB.c1;have fb_:=hBB.free)|skip
           have hk2:Ext wr1 w3:=by first|with_reducible exact hk2.trans hx_w3|with_reducible exact hka.trans hx_w3|with_reducible exact (hk2.trans (Ext.alloc _ _)).trans hx_w3
           have hk2s:=hk2.size)
        | fail)
     all_goals (go_wp2_with fail;go_meet;first|exact ⟨_,rfl,rfl,ae (hBB.put _ _)⟩|exact ⟨_,rfl,rfl,ae (ah.new hk2 _ _)⟩|exact ⟨_,rfl,rfl,ae (ah.new' hk2 _ _ (by simp))⟩)
    obtain ⟨g,rfl,rfl,HB1⟩:=hcut;have g0:=HB1.out.c0;have g1':=HB1.out.c1;have hB3:=HB.out.grow HB1.out.ext;have hb0':=hB3.c0;have hb1':=hB3.c1;have HB3:=ae hB3;clear hb0 hb1 hac0 hac1 hbc0 hbc1 hB3;go_wp2_with fail;refine (jm p q mx my _).mono ?_;rw [HS2.out];rintro e w4 ⟨rfl,hx4⟩;have HB4:=ae (HB3.out.grow hx4);have HB5:=ae (HB4.out.grow (Ext.alloc _ (.cells #[.int .i64 p2,.int .i64 q2] 43)));have hr:=ai (HRW.out _ HB5.out.ext);obtain ⟨hr0,hr1,hrf⟩:=hr;have HX5:=ae HB5.out.ext;have hbf:=HB5.out.free;have hb5l:=HB4.out.lt;have hw4:=HB4.out.ext.size;have h40:=HB4.out.c0;have h41:=HB4.out.c1;have h4f:=HB4.out.free;clear hx4 g0 g1' hb0' hb1';cases one
    ·have HN:=ae (show dotL A B=none by rw [HD.out];exact ga (k:=k+1) (by rw [HST.out];simp) hlt);go_wp2_with fail;refine bodyPost_ret (v:=.tuple #[.agg #[.int .i64 0,.int .i64 0],.bool false]) (by simp [results,Tryz.results233,go_sem,hr0,hr1]) rfl ⟨by rw [HN.out];rfl,(((HXW.out.trans HX5.out).store 0 (Nat.le_refl _) _).store 1 (Nat.le_refl _) _)⟩
    ·cases two
     ·have HN:=ae (show dotL A B=none by rw [HD.out];exact ga (k:=k+1) (by rw [HST.out];simp) hlt);go_wp2_with fail;refine bodyPost_ret (v:=.tuple #[.agg #[.int .i64 0,.int .i64 0],.bool false]) (by simp [results,Tryz.results233,go_sem,hr0,hr1]) rfl ⟨by rw [HN.out];rfl,(((HXW.out.trans HX5.out).store 0 (Nat.le_refl _) _).store 1 (Nat.le_refl _) _)⟩
     ·have HT2:=ae (show dotN A B (k+1)=some (p2,q2) by rw [HST.out];simp);have HB6:=ae ((HB4.out.put p2 q2).grow (Ext.alloc _ (.cells #[.int .i64 p2,.int .i64 q2] 43)));go_wp2_with fail
      go_roundg (g1-1)
      case measure=>have:=HK.out;omega
      case rel=>exact ⟨k+1,p2,q2,ae (by have:=HK.out;omega),by go_num,HB6,HT2⟩
   ·have hkn:n=k:=by have:=HK.out;omega
    subst hkn;have HY:=ae (show dotL A B=some (p,q) by rw [HD.out];exact HT.out);have hr:=ai (HRW.out wr1 HB.out.ext);obtain ⟨hr0,hr1,hrf⟩:=hr;go_wp2_with fail;refine bodyPost_ret (v:=.tuple #[.agg #[.int .i64 p,.int .i64 q],.bool true]) (by simp [results,Tryz.results233,go_sem,hr0,hr1]) rfl ⟨by rw [HY.out];rfl,(((HXW.out.trans HB.out.ext).store 0 (Nat.le_refl _) _).store 1 (Nat.le_refl _) _)⟩
 ·have HN:=ae (show dotL A B=none by unfold dotL;rw [HL.out,HL'.out,if_neg hne]);have hnn:((n:Int) != (n':Int))=true:=by simp;omega
  have hr:=ai HRB.out;obtain ⟨hr0,hr1,hrf⟩:=hr;go_enter Tryz.func233,Tryz.ntmps233
  go_wp2_with fail;refine bodyPost_ret (v:=.tuple #[.agg #[.int .i64 0,.int .i64 0],.bool false]) (by simp [results,Tryz.results233,go_sem,hr0,hr1]) rfl ⟨by rw [HN.out];rfl,HX0.out⟩
theorem dU {v:Value} {a b:Bool} (h:a=b):Ending.returned (.tuple #[v,.bool a])=.returned (.tuple #[v,.bool b]):=by rw [h]
set_option maxHeartbeats 4000000 in
theorem mC {w:World} {a:Option Addr} {n cap:Nat} {l:List Int} (h:Ints w a n cap l) (hbig:n<=1048576) :
 Calls Tryz.prog 271 #[.slice a n cap] w fun e w'=>(∃ v,e=.returned (.tuple #[v,.bool (fitL l)])/\OwnR w' w.heap.size v (dC l))/\Ext w w':=by
 have hcap:=h.hcap;have hmax:=h.hmax;have HL:=ae h.hlen;have HI:=ae h;have HO:=ae (OwnR.made w w.heap.size (Nat.le_refl _));clear h;go_enter Tryz.func271,Tryz.ntmps271
 go_wp2_with fail
 go_loopg [4,5] n (fun gk oo ii wr=>∃ (k:Nat) (a1:Option Addr) (n1 c1:Nat),Hid (gk+k=n)/\ii=.int .i64 (k:Int)/\oo=.slice a1 n1 c1/\Hid ((l.take k).all (fun c=>inB c (-1000000000) 1000000000)=true)/\Hid (OwnR wr w.heap.size (.slice a1 n1 c1) (aw (l.take k)))/\Hid (Ext w wr))
 case atStart=>exact ⟨0,_,_,_,ae (by omega),rfl,rfl,ae rfl,HO,ae (Ext.alloc _ _)⟩
 case round =>
  obtain ⟨g1,h_g1⟩:∃ x,x=gk:=⟨_,rfl⟩;subst h_g1;obtain ⟨wr1,h_wr1⟩:∃ x,x=wr:=⟨_,rfl⟩;subst h_wr1;obtain ⟨k,a1,n1,c1,HK,rfl,rfl,HA,HO1,HX⟩:=hrel;have hsz:=HX.out.size;by_cases hlt:k<n
  ·obtain ⟨b,off,rfl,hc0⟩:=(HI.out.ext HX.out).at hlt;obtain ⟨x,hx⟩:∃ x,x=l[k]?.getD 0:=⟨_,rfl⟩;rw [<-hx] at hc0;have HC:=ae (bv x (-1000000000) 1000000000 wr1);cases hb:inB x (-1000000000) 1000000000
   all_goals
    rw [hb] at HC
   ·have HF:=ae (show fitL l=false from fm (d:=0) (by rw [HL.out];exact hlt) (by rw [<-hx];exact hb));have HR:=ae (show dC l=[] by unfold dC;rw [HF.out];rfl);clear hx hb;go_wp2_with (first|(go_at_call 95;refine HC.out.mono ?_;rintro e w2 ⟨rfl,rfl⟩))
    go_ret2
    exact ⟨⟨_,dU HF.out.symm,by rw [HR.out];exact OwnR.made _ _ hsz⟩,HX.out.trans (Ext.alloc _ _)⟩
   ·have HT:=ae (show (l.take (k+1)).all (fun c=>inB c (-1000000000) 1000000000)=true by rw [ik (d:=0) (by rw [HL.out];exact hlt),HA.out,<-hx,hb];rfl);have HSN:=ae (show aw (l.take k)++[(x,1)]=aw (l.take (k+1)) by rw [hx];exact iW (by rw [HL.out];exact hlt));have HLL:=ae (show (aw (l.take k)).length=k by rw [fE,List.length_take,HL.out];omega);clear hx hb;go_wp2_with (first|(go_at_call 95;refine HC.out.mono ?_;rintro e w2 ⟨rfl,rfl⟩));refine (ce x _).mono ?_;rintro e w3 ⟨rfl,hx⟩;have X3:=ae (HX.out.trans hx);have HO3:=ae (HO1.out.ext hx);have hs3:=X3.out.size;clear hx
    go_wp2_with (first
     | (at_builtin;refine aJ rfl _ _ rfl w.heap.size (.slice a1 n1 c1) _ rfl (HO3.out.ext (Ext.alloc _ _)) _ 1 _ [(x,1)] rfl (Rats.one' _ _ _ _ _ (by simp)) (by rw [HLL.out];omega) (by simp;omega) ?_;intro v5 w5 ho hg hnear;have X5:=ae (aq (X3.out.trans (Ext.alloc _ _)) hg (fun j hj=>(HO3.out.lt j hj).1));obtain ⟨a5,n5,p5,rfl,HN5⟩:=ho.var;have HO5:=ae ho;clear ho hg hnear))
    go_roundg (g1-1)
    case measure=>have:=HK.out;omega
    case rel=>exact ⟨k+1,a5,n5,p5,ae (by have:=HK.out;omega),by go_num,rfl,HT,ae (by rw [<-HSN.out];exact HO5.out),X5⟩
  ·have HT:=ae (show l.take k=l from List.take_of_length_le (by rw [HL.out];have:=HK.out;omega));have HF:=ae (show fitL l=true by have:=HA.out;rw [HT.out] at this;exact this);have HR:=ae (show dC l=aw (l.take k) by unfold dC;rw [HF.out,HT.out];rfl);go_wp2_with fail
   go_ret2
   exact ⟨⟨_,dU HF.out.symm,by rw [HR.out];exact HO1.out⟩,HX.out⟩
section
variable {w:World} {a:Option Addr} {na ca:Nat} {b:Option Addr} {nb cb:Nat} {c:Option Addr} {nc cc:Nat} {A:List (List Int)} {B:List Int} {C:List (Int × Int)}
theorem cg (h:LpC w a na ca b nb cb c nc cc A B C) (ok:okLP A B C=true):nc<=70/\na<=8/\nb=na/\(∀ i,i<na->(A[i]?.getD []).length=nc)/\(∀ i,i<na->(A[i]?.getD []).length<=70/\∀ x ∈ A[i]?.getD [],-5000<=x/\x<=5000)/\∀ x ∈ B,-5000<=x/\x<=5000:=by
 have l1:=h.a.hlen;have l2:=h.b.hlen;have l3:=h.c.hlen;rw [gO] at ok;simp only [Bool.and_eq_true,decide_eq_true_eq,List.all_eq_true,dp,inB] at ok;obtain ⟨h1,h2,h3,h4,h5,h6⟩:=ok;have key:∀ i,i<na->(A[i]?.getD []).length=nc/\∀ x ∈ A[i]?.getD [],-5000<=x/\x<=5000:=by
  intro i hi;rw [List.getElem?_eq_getElem (by omega),Option.getD_some];have:=h5 _ (List.getElem_mem (l:=A) (n:=i) (by omega));exact ⟨by omega,this.2⟩
 exact ⟨by omega,by omega,by omega,fun i hi=>(key i hi).1,fun i hi=>⟨by have:=(key i hi).1;omega,(key i hi).2⟩,h6⟩
set_option maxHeartbeats 4000000 in
theorem ir (h:LpC w a na ca b nb cb c nc cc A B C) {xa:Option Addr} {xn xcap:Nat} {X:List (Int × Int)} (hX:Rats w xa xn xcap X) :
 Calls Tryz.prog 253 #[lpW a na ca b nb cb c nc cc,.slice xa xn xcap] w fun e w'=>e=.returned (.bool (okLP A B C&&dt A B C.length X))/\Ext w w':=by
 have hx0:=Ext.alloc w (bm a na ca b nb cb c nc cc);have HX0:=ae hx0;have H:=ae (h.ext hx0);have HXX:=ae (hX.ext hx0);have HLC:=ae h.c.hlen;have HLA:=ae h.a.hlen;have hc1:=h.c.hcap;have hc2:=h.c.hmax;have HO:=ae (fun ok=>cg h ok);have HV:=ae (dJ H.out);clear h hX hx0;cases hok:okLP A B C
 ·rw [hok] at HV;clear hok;go_enter Tryz.func253,Tryz.ntmps253
  go_wp2_with fail;refine HV.out.mono ?_;rintro e w1 ⟨rfl,hx⟩;have X1:=ae (HX0.out.trans hx);clear hx;go_wp2_with fail;go_ret;exact ⟨rfl,X1.out⟩
 ·rw [hok] at HV;have HR:=ae (HO.out hok);obtain ⟨r1,r2,r3,_,_,_⟩:=HO.out hok;subst r3;have HN:=ae (fun (w':World) (hx:Ext (w.alloc (bm a nb ca b nb cb c nc cc)) w')=>ib (HXX.out.ext hx) nc);have HE:=ae (show (true&&dt A B C.length X)=((decide (X.length=nc)&&posV X)&&cU A X B) by unfold dt;rw [HLC.out,Bool.true_and,Bool.and_assoc]);clear hok;cases hn:(decide (X.length=nc)&&posV X)
  ·rw [hn] at HN HE;clear hn;go_enter Tryz.func253,Tryz.ntmps253
   go_wp2_with fail;refine HV.out.mono ?_;rintro e w1 ⟨rfl,hx⟩;have hcc:w1.cell? ⟨w.heap.size,2,none⟩=some (.slice c nc cc):=hx.cellSome (by simp);have X1:=ae hx;clear hx;go_wp2_with fail;refine (HN.out _ X1.out).mono ?_;rintro e w2 ⟨rfl,hx⟩;have X2:=ae ((HX0.out.trans X1.out).trans hx);clear hx;go_wp2_with fail;go_ret;exact ⟨ag (by rw [HE.out];rfl),X2.out⟩
  ·rw [hn] at HN HE;clear hn;go_enter Tryz.func253,Tryz.ntmps253
   go_wp2_with fail;refine HV.out.mono ?_;rintro e w1 ⟨rfl,hx⟩;have hca:w1.cell? ⟨w.heap.size,0,none⟩=some (.slice a nb ca):=hx.cellSome (by simp);have hcb:w1.cell? ⟨w.heap.size,1,none⟩=some (.slice b nb cb):=hx.cellSome (by simp);have hcc:w1.cell? ⟨w.heap.size,2,none⟩=some (.slice c nc cc):=hx.cellSome (by simp);have X1:=ae hx;clear hx;go_wp2_with fail;refine (HN.out _ X1.out).mono ?_;rintro e w2 ⟨rfl,hx⟩;replace hca:=hx.cellSome hca;replace hcb:=hx.cellSome hcb;replace hcc:=hx.cellSome hcc;have X2:=ae (X1.out.trans hx);clear hx;have HG:=ae (nL (b:=b) (nb:=nb) (cb:=cb) (c:=c) (nc:=nc) (cc:=cc) (H.out.ext X2.out).a (HXX.out.ext X2.out) (H.out.ext X2.out).b (Nat.le_refl _) HR.out.2.2.2.2.1);go_wp2_with fail;refine HG.out.mono ?_;rintro e w3 ⟨rfl,hx⟩;have X3:=ae ((HX0.out.trans X2.out).trans hx);clear hx;go_wp2_with fail;go_ret;exact ⟨ag (by rw [HE.out];rfl),X3.out⟩
end
end Go.Proofs.YthjjfkeacobikaaGreat
namespace Go.Proofs.YthjjfkeacobikaaGreat
set_option maxRecDepth 100000
open Go.RowKit
set_option maxHeartbeats 4000000 in
theorem iI {w:World} {a:Option Addr} {n cap:Nat} {l:List Int} (h:Ints w a n cap l) (hf:fitL l=true) (hbig:n<=1048576) {xa:Option Addr} {xn xc:Nat} {X:List (Int × Int)} (hX:Rats w xa xn xc X) :
 Calls Tryz.prog 231 #[.slice a n cap,.slice xa xn xc] w fun e w'=>e=.returned (resR (optR (dotL (aw l) X)))/\Ext w w':=by
 have hx0:=Ext.alloc w (.cells #[.int .i64 0,.int .i64 0] 43);have HX0:=ae hx0;have HI:=ae (mC (h.ext hx0) hbig);have HXX:=ae (hX.ext hx0);have HRL:=ae (show dC l=aw l by unfold dC;rw [hf];rfl);have HRB:=ae (show (w.alloc (.cells #[.int .i64 0,.int .i64 0] 43)).heap[w.heap.size]?=some (.cells #[.int .i64 0,.int .i64 0] 43 (0,0)) from aj _ _ _ rfl);rw [hf,HRL.out] at HI;clear h hX hx0 hf;go_enter Tryz.func231,Tryz.ntmps231
 go_wp2_with fail;refine HI.out.mono ?_;rintro e w1 ⟨⟨v1,rfl,ho⟩,hx⟩;obtain ⟨a1,n1,c1,rfl,HN1⟩:=ho.var;have HD:=ae (jn ho.rats (HXX.out.ext hx));have X1:=ae hx;obtain ⟨dv,hdv⟩:∃ d,d=dotL (aw l) X:=⟨_,rfl⟩;rw [<-hdv] at HD;have HDV:=ae hdv;clear ho hx hdv;have hsz:=X1.out.size;rw [World.size_alloc] at hsz;cases dv with
 | none =>
   rw [show optR none=((0,0),false) from rfl] at HD;go_wp2_with fail;refine HD.out.mono ?_;rintro e w2 ⟨rfl,hx⟩;have X2:=ae ((X1.out.trans hx).trans (Ext.alloc w2 (.cells #[.int .i64 0,.int .i64 0] 43)));have hr:=ai (X2.out.blk HRB.out);obtain ⟨hr0,hr1,hrf⟩:=hr;clear hx;go_wp2_with fail;refine bodyPost_ret (v:=.tuple #[.agg #[.int .i64 0,.int .i64 0],.bool false]) (by simp [results,Tryz.results231,go_sem,hr0,hr1]) rfl ⟨by rw [<-HDV.out];rfl,(((HX0.out.trans X2.out).store 0 (Nat.le_refl _) _).store 1 (Nat.le_refl _) _)⟩
 | some r =>
   obtain ⟨r1,r2⟩:=r;rw [show optR (some (r1,r2))=((r1,r2),true) from rfl] at HD;go_wp2_with fail;refine HD.out.mono ?_;rintro e w2 ⟨rfl,hx⟩;have X2:=ae ((X1.out.trans hx).trans (Ext.alloc w2 (.cells #[.int .i64 r1,.int .i64 r2] 43)));have hr:=ai (X2.out.blk HRB.out);obtain ⟨hr0,hr1,hrf⟩:=hr;clear hx;go_wp2_with fail;refine bodyPost_ret (v:=.tuple #[.agg #[.int .i64 r1,.int .i64 r2],.bool true]) (by simp [results,Tryz.results231,go_sem,hr0,hr1]) rfl ⟨by rw [<-HDV.out];rfl,(((HX0.out.trans X2.out).store 0 (Nat.le_refl _) _).store 1 (Nat.le_refl _) _)⟩
set_option maxHeartbeats 4000000 in
theorem iy {w:World} (m:Nat) (hm:m<=100000) :
 Calls Tryz.prog 181 #[.int .i64 (m:Int)] w fun e w'=>(∃ v,e=.returned v/\OwnR w' w.heap.size v (List.replicate m (0,1)))/\Ext w w':=by
 have HO:=ae (OwnR.made w w.heap.size (Nat.le_refl _));go_enter Tryz.func181,Tryz.ntmps181
 go_wp2_with fail
 go_loopg [3,4] m (fun gk oo ii wr=>∃ (k:Nat) (a1:Option Addr) (n1 p1:Nat),Hid (gk+k=m)/\ii=.int .i64 (k:Int)/\oo=.slice a1 n1 p1/\Hid (OwnR wr w.heap.size (.slice a1 n1 p1) (List.replicate k (0,1)))/\Hid (Ext w wr))
 case atStart=>exact ⟨0,_,_,_,ae (by omega),rfl,rfl,HO,ae (Ext.alloc _ _)⟩
 case round =>
  obtain ⟨g1,h_g1⟩:∃ x,x=gk:=⟨_,rfl⟩;subst h_g1;obtain ⟨wr1,h_wr1⟩:∃ x,x=wr:=⟨_,rfl⟩;subst h_wr1;obtain ⟨k,a1,n1,p1,HK,rfl,rfl,HO1,HX⟩:=hrel;by_cases hlt:k<m
  ·have HLL:=ae (show (List.replicate k ((0:Int),(1:Int))).length=k by simp);go_wp2_with fail;refine (ce 0 _).mono ?_;rintro e w3 ⟨rfl,hx⟩;have X3:=ae (HX.out.trans hx);have HO3:=ae (HO1.out.ext hx);have hs3:=X3.out.size;clear hx
   go_wp2_with (first
    | (at_builtin;refine aJ rfl _ _ rfl w.heap.size (.slice a1 n1 p1) _ rfl (HO3.out.ext (Ext.alloc _ _)) _ 1 _ [(0,1)] rfl (Rats.one' _ _ _ _ _ (by simp)) (by rw [HLL.out];omega) (by simp;omega) ?_;intro v5 w5 ho hg hnear;have X5:=ae (aq (X3.out.trans (Ext.alloc _ _)) hg (fun j hj=>(HO3.out.lt j hj).1));obtain ⟨a5,n5,p5,rfl,HN5⟩:=ho.var;have HO5:=ae ho;clear ho hg hnear))
   go_roundg (g1-1)
   case measure=>have:=HK.out;omega
   case rel=>exact ⟨k+1,a5,n5,p5,ae (by have:=HK.out;omega),by go_num,rfl,ae (by have:=HO5.out;rw [<-List.replicate_succ'] at this;exact this),X5⟩
  ·have hkm:m=k:=by have:=HK.out;omega
   subst hkm;go_wp2_with fail;go_ret;exact ⟨⟨_,rfl,HO1.out⟩,HX.out⟩
section
variable {w:World} {a:Option Addr} {na ca:Nat} {b:Option Addr} {nb cb:Nat} {c:Option Addr} {nc cc:Nat} {A:List (List Int)} {B:List Int} {C:List (Int × Int)}
set_option maxHeartbeats 4000000 in
theorem oP (h:LpC w a na ca b nb cb c nc cc A B C) (ok:okLP A B C=true) {j:Nat} (hj:j<nc) :
 Calls Tryz.prog 272 #[lpW a na ca b nb cb c nc cc,.int .i64 (j:Int)] w fun e w'=>(∃ v,e=.returned v/\OwnI w' w.heap.size v (colL A j))/\Ext w w':=by
 obtain ⟨r1,r2,r3,r4,r5,r6⟩:=cg h ok;subst r3;have hx0:=Ext.alloc w (bm a nb ca b nb cb c nc cc);have HX0:=ae hx0;have HTB:=ae (show (w.alloc (bm a nb ca b nb cb c nc cc)).heap[w.heap.size]?=some (.cells #[.slice a nb ca,.slice b nb cb,.slice c nc cc] 109 (0,0)) from aj _ _ _ rfl);obtain ⟨W,hW⟩:∃ x,x=w.alloc (bm a nb ca b nb cb c nc cc):=⟨_,rfl⟩;have H:=ae (h.ext hx0);rw [<-hW] at hx0 HX0 HTB H;have HI:=ae H.out.a;have ha1:=h.a.hcap;have ha2:=h.a.hmax;have hc1:=h.c.hcap;have hc2:=h.c.hmax;have HL:=ae h.a.hlen;have HLL:=ae r4;have hsw:W.heap.size=w.heap.size+1:=by rw [hW];simp
 have HO:=ae (OwnI.madeS W (w.heap.size+1) _ rfl (by omega));have X0:=ae (Ext.alloc W (.cells #[] 3));have HV:=ae (dA (H.out.ext X0.out));rw [ok] at HV;have HIN:=ae (fun w'=>bv (j:Int) 0 ((nc:Int)-1) w');rw [show inB (j:Int) 0 ((nc:Int)-1)=true by unfold inB;simp;omega] at HIN;have hw1:IntKind.i64.wrap ((nc:Int)-1)=(nc:Int)-1:=by rw [IntKind.wrap_i64];omega
 clear h r4 r5 r6 ok hx0;go_enter Tryz.func272,Tryz.ntmps272
 go_upto_region 1 with fail;rw [<-hW];clear hW;have p0:=al (X0.out.blk HTB.out);have p1:=am (X0.out.blk HTB.out);have p2:=ap (X0.out.blk HTB.out);rw [hsw] at HO;go_wp2_with fail;refine HV.out.mono ?_;rintro e w1 ⟨rfl,hx⟩;have X1:=ae (X0.out.trans hx);have HO1':=ae (HO.out.ext hx);clear hx p0 p1 p2;have p2:=ap (X1.out.blk HTB.out);go_wp2_with (first|(go_at_call 95;refine (HIN.out _).mono ?_;rintro e w2 ⟨rfl,rfl⟩))
 go_loopg [5,6] nb (fun gk o ii wr=>∃ (k:Nat) (a1:Option Addr) (n1 p1:Nat),Hid (gk+k=nb)/\ii=.int .i64 (k:Int)/\o=.slice a1 n1 p1/\Hid (OwnI wr (w.heap.size+1) (.slice a1 n1 p1) (colL (A.take k) j))/\Hid (Ext W wr))
 case atStart=>exact ⟨0,_,_,_,ae (by omega),rfl,rfl,ae (by simpa [colL] using HO1'.out),X1⟩
 case round =>
  obtain ⟨g1,h_g1⟩:∃ x,x=gk:=⟨_,rfl⟩;subst h_g1;obtain ⟨wr1,h_wr1⟩:∃ x,x=wr:=⟨_,rfl⟩;subst h_wr1;obtain ⟨k,a1,n1,p1,HK,rfl,rfl,HO1,HX1⟩:=hrel;clear p2;have p0:=al (HX1.out.blk HTB.out);have hsz:=HX1.out.size;by_cases hlt:k<nb
  ·obtain ⟨gb,goff,ra,rn,rc,rfl,hgc,hrow⟩:=(HI.out.ext HX1.out).at hlt;have hrn:rn=nc:=by rw [<-hrow.hlen];exact HLL.out k hlt
   subst hrn;obtain ⟨eb,eoff,rfl,hec⟩:=hrow.at hj;obtain ⟨x,hx⟩:∃ x,x=(A[k]?.getD [])[j]?.getD 0:=⟨_,rfl⟩;rw [<-hx] at hec;have HS:=ae (show colL (A.take k) j++[x]=colL (A.take (k+1)) j by rw [hx];exact kK (by rw [HL.out];exact hlt));have HLK:=ae (show (colL (A.take k) j).length=k by simp [colL];have:=HL.out;omega);have hrc:=hrow.hcap;have hrm:=hrow.hmax;clear hrow hx
   go_wp2_with (first
    | (at_builtin;refine bw rfl _ _ rfl (w.heap.size+1) (.slice a1 n1 p1) _ rfl (HO1.out.ext (Ext.alloc _ _)) _ 1 _ [x] rfl (Ints.oneS _ _ _ _ (by simp)) (by rw [HLK.out];omega) (by simp;omega) ?_;intro v2 w3 ho hg hnear;have X5:=ae (aq (HX1.out.trans (Ext.alloc _ _)) hg (fun i hi=>by have:=(HO1.out.lt i hi).1;omega));obtain ⟨a2,n2,c2,rfl,HN2⟩:=ho.var;have HO4:=ae ho;clear ho hg hnear))
   go_roundg (g1-1)
   case measure=>have:=HK.out;omega
   case rel=>exact ⟨k+1,a2,n2,c2,ae (by have:=HK.out;omega),by go_num,rfl,ae (by rw [<-HS.out];exact HO4.out),X5⟩
  ·have hkn:nb=k:=by have:=HK.out;omega
   subst hkn;have HT:=ae (show A.take nb=A from List.take_of_length_le (by rw [HL.out];exact Nat.le_refl _));rw [HT.out] at HO1;go_wp2_with fail;go_ret;exact ⟨⟨_,rfl,HO1.out.mono (by omega)⟩,HX0.out.trans HX1.out⟩
set_option maxHeartbeats 4000000 in
theorem gn {w:World} {a:Option Addr} {n cap:Nat} {l:List (Int × Int)} (h:Rats w a n cap l) :
 Calls Tryz.prog 235 #[.slice a n cap] w fun e w'=>e=.returned (.bool (posV l))/\Ext w w':=by
 have hcap:=h.hcap;have hmax:=h.hmax;have HL:=ae h.hlen;have HI:=ae h;clear h;go_enter Tryz.func235,Tryz.ntmps235
 go_wp2_with fail
 go_loopg [3] n (fun gk ii wr=>∃ k:Nat,Hid (gk+k=n)/\ii=.int .i64 (k:Int)/\Hid ((l.take k).all (fun r=>valR r&&decide (0<=r.1))=true)/\Hid (Ext w wr))
 case atStart=>exact ⟨0,ae (by omega),rfl,ae rfl,ae (Ext.refl _)⟩
 case round =>
  obtain ⟨g1,h_g1⟩:∃ x,x=gk:=⟨_,rfl⟩;subst h_g1;obtain ⟨wr1,h_wr1⟩:∃ x,x=wr:=⟨_,rfl⟩;subst h_wr1;obtain ⟨k,HK,rfl,HA,HX⟩:=hrel;by_cases hlt:k<n
  ·obtain ⟨b,off,x,y,rfl,hxy,hc0,hc1⟩:=(HI.out.ext HX.out).at hlt;have HC:=ae (az x y wr1);have HKL:=ae (show k<l.length by rw [HL.out];exact hlt);cases hb:valR (x,y)
   all_goals
    rw [hb] at HC
   ·have HF:=ae (show posV l=false from fm (d:=(0,0)) HKL.out (by rw [hxy,hb];rfl));clear hxy hb;go_wp2_with fail;refine HC.out.mono ?_;rintro e w2 ⟨rfl,hx2⟩;go_wp2_with fail;go_ret;exact ⟨ag HF.out.symm,HX.out.trans hx2⟩
   ·by_cases hx0:x<0
    ·have HF:=ae (show posV l=false from fm (d:=(0,0)) HKL.out (by rw [hxy,hb];simp;omega));clear hxy hb;go_wp2_with fail;refine HC.out.mono ?_;rintro e w2 ⟨rfl,hx2⟩;have k0:=hx2.cellSome hc0;have k1:=hx2.cellSome hc1;go_wp2_with fail;go_ret;exact ⟨ag HF.out.symm,HX.out.trans hx2⟩
    ·have HT:=ae (show (l.take (k+1)).all (fun r=>valR r&&decide (0<=r.1))=true by rw [ik (d:=(0,0)) HKL.out,HA.out,hxy,hb];simp;omega);clear hxy hb;go_wp2_with fail;refine HC.out.mono ?_;rintro e w2 ⟨rfl,hx2⟩;have k0:=hx2.cellSome hc0;have k1:=hx2.cellSome hc1;go_wp2_with fail
     go_roundg (g1-1)
     case measure=>have:=HK.out;omega
     case rel=>exact ⟨k+1,ae (by have:=HK.out;omega),by go_num,HT,ae (HX.out.trans hx2)⟩
  ·have HT:=ae (show l.take k=l from List.take_of_length_le (by rw [HL.out];have:=HK.out;omega));go_wp2_with fail;go_ret;exact ⟨ag (by have:=HA.out;rw [HT.out] at this;exact this.symm),HX.out⟩
end
end Go.Proofs.YthjjfkeacobikaaGreat
