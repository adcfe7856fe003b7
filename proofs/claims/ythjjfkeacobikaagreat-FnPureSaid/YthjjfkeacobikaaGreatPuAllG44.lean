import Derived.Test.YthjjfkeacobikaaGreatPuAllG36
import Derived.Test.YthjjfkeacobikaaGreatPuAllG39
import Derived.Test.YthjjfkeacobikaaGreatPuAllG12
set_option linter.unusedVariables false
set_option linter.unusedSimpArgs false
namespace Go.Proofs.YthjjfkeacobikaaGreat
set_option maxRecDepth 100000
open Go.RowKit
theorem OwnI.litN (w:World) (base:Nat) (x:Int) (hb:base<=w.heap.size):OwnI (w.alloc (.cells #[.int .i64 x] 3)) base (.slice (some ⟨w.heap.size,0,none⟩) 1 1) [x] :=
 World.ownsRow_lit w #[.int .i64 x] 1 hb (by simp [maxLen]) rfl
theorem OwnR.lit1 (w:World) (base:Nat) (x y:Int) (hb:base<=w.heap.size):OwnR (w.alloc (.cells #[.int .i64 x,.int .i64 y] 43)) base (.slice (some ⟨w.heap.size,0,none⟩) 1 1) [(x,y)] :=
 ⟨by simp [ratL],.inr ⟨w.heap.size,1,_,rfl,hb,heap_alloc_new w _,Nat.le_refl _,by decide,rfl,by simp [ratL]⟩⟩
set_option maxHeartbeats 16000000 in
theorem jL {w:World} {p:Int} {a:Option Addr} {n cap:Nat} {V:List Int} (h:Ints w a n cap V) :
 Calls Tryz.prog 52 #[pair p a n cap] w fun e w'=>eI w' w.heap.size e (nucR p V)/\Ext w w':=by
 obtain ⟨W,hW⟩:∃ W,W=(w.alloc (.cells #[.int .i64 p,.slice a n cap] 29)).alloc (.cells #[.bool false,.slice none 0 0,.slice none 0 0,.int .i64 0] 73):=⟨_,rfl⟩;have hws:W.heap.size=w.heap.size+2:=by rw [hW];simp
 have hX:Ext w W:=by rw [hW];exact (Ext.alloc _ _).trans (Ext.alloc _ _)
 have HRB:=ae (show W.heap[w.heap.size+1]?=some (.cells #[.bool false,.slice none 0 0,.slice none 0 0,.int .i64 0] 73 (0,0)) by rw [hW];exact aj _ _ _ (by simp));have HP0:=ae (show W.cell? ⟨w.heap.size,0,none⟩=some (.int .i64 p) by rw [hW];exact Ext.cellSome (Ext.alloc _ _) (by simp));have HP1:=ae (show W.cell? ⟨w.heap.size,1,none⟩=some (.slice a n cap) by rw [hW];exact Ext.cellSome (Ext.alloc _ _) (by simp));have HI:=ae (h.ext hX);have HX:=ae hX;have HVL:=ae h.hlen;have HIV:=ae (fi (p:=p) HI.out);have HEND:=ae (fun (w':World) (hx:Ext W w') (v0 v1 v2 v3:Value)=>nbox (nput ((hx.block _ (by omega)).trans HRB.out) v0 v1 v2 v3).1);have HENX:=ae (fun (w':World) (hx:Ext W w') (v0 v1 v2 v3:Value)=>nputX (w:=w) (r:=w.heap.size+1) (HX.out.trans hx) (Nat.le_succ _) v0 v1 v2 v3);have HENO:=ae (fun (w':World) (hx:Ext W w') (v0 v1 v2 v3:Value)=>(nput ((hx.block (w.heap.size+1) (by omega)).trans HRB.out) v0 v1 v2 v3).2);have HRX:=ae (fun (w':World) (hx:Ext W w')=>nbox ((hx.block _ (by omega)).trans HRB.out));clear h hX;cases hgo:bL p V
 ·rw [hgo] at HIV;have HN:=ae (show nucR p V=NucR.no by unfold nucR;rw [hgo];rfl);clear hgo;go_enter Tryz.func52,Tryz.ntmps52
  go_wp2_with fail;rw [<-hW];refine HIV.out.mono ?_;rintro e w1 ⟨rfl,hx⟩;obtain ⟨q0,q1,q2,q3,qf⟩:=HRX.out w1 hx;obtain ⟨z0,z1,z2,z3,_⟩:=HEND.out w1 hx (.bool false) (.slice none 0 0) (.slice none 0 0) (.int .i64 0);have HZ:=ae (HENX.out w1 hx (.bool false) (.slice none 0 0) (.slice none 0 0) (.int .i64 0));clear hx hW;go_wp2_with fail;refine bodyPost_ret (v:=.agg #[.bool false,.slice none 0 0,.slice none 0 0,.int .i64 0]) (by simp [results,Tryz.results52,go_sem,z0,z1,z2,z3]) rfl ⟨by rw [HN.out];exact eI.no _ _,HZ.out⟩
 ·rw [hgo] at HIV;obtain ⟨h1,h32,hpq,hq1,hq5,hV⟩:=fG hgo;obtain ⟨q,hq⟩:∃ q,q=p.toNat:=⟨_,rfl⟩;rw [<-hq] at hpq hq1 hq5;have HGO:=ae hgo;have hn1:1<=n:=by rw [<-HVL.out];exact h1
  have hn32:n<=32:=by rw [<-HVL.out];exact h32
  obtain ⟨g,hg⟩:∃ g,g=dS p V:=⟨_,rfl⟩;have HG:=ae hg;have HGV:=ae (fun (w':World) (hx:Ext W w')=>lQ (p:=p) (HI.out.ext hx));simp only [<-hg] at HGV;clear hgo hq hV h1 h32 hg;by_cases hq2:p=1
  ·subst hq2;clear hpq;have HN:=ae (show nucR 1 V=⟨true,[(g,1)],[],0⟩ by unfold nucR;rw [if_pos HGO.out,if_pos (by rfl),<-HG.out]);go_enter Tryz.func52,Tryz.ntmps52
   go_wp2_with fail;rw [<-hW];refine HIV.out.mono ?_;rintro e w1 ⟨rfl,hx⟩;have c0:=hx.cellSome HP0.out;have c1:=hx.cellSome HP1.out;have X1:=ae hx;clear hx hW;go_wp2_with fail;refine (HGV.out _ X1.out).mono ?_;rintro e w2 ⟨rfl,hx2⟩;go_wp2_with fail;refine (cz g _).mono ?_;rintro e w3 ⟨rfl,hx3⟩;have hx4:=hx2.trans hx3;have X4:=ae (X1.out.trans (hx4.trans (Ext.alloc w3 (.cells #[.int .i64 g,.int .i64 1] 43))));obtain ⟨q0,q1,q2,q3,qf⟩:=HRX.out _ X4.out;obtain ⟨z0,z1,z2,z3,_⟩:=HEND.out _ X4.out (.bool true) (.slice (some ⟨w3.heap.size,0,none⟩) 1 1) (.slice none 0 0) (.int .i64 0);have HZ:=ae (HENX.out _ X4.out (.bool true) (.slice (some ⟨w3.heap.size,0,none⟩) 1 1) (.slice none 0 0) (.int .i64 0));have HZO:=ae (HENO.out _ X4.out (.bool true) (.slice (some ⟨w3.heap.size,0,none⟩) 1 1) (.slice none 0 0) (.int .i64 0));have hs3:=(X1.out.trans hx4).size;have HPT:=ae ((OwnR.lit1 w3 w.heap.size g 1 (by omega)).keep (fun k hk=>HZO.out k (by simp only [Value.ownBlock,Option.some.injEq] at hk;omega)));clear hx2 hx3 hx4 c0 c1;go_wp2_with fail;refine bodyPost_ret (v:=.agg #[.bool true,.slice (some ⟨w3.heap.size,0,none⟩) 1 1,.slice none 0 0,.int .i64 0]) (by simp [results,Tryz.results52,go_sem,z0,z1,z2,z3]) rfl ⟨by rw [HN.out];exact ⟨_,_,_,_,_,_,rfl,HPT.out,OwnG.nil _ _ _ _⟩,HZ.out⟩
  ·subst hpq;have hp2:2<=(q:Int):=by omega
   have hpb:((q:Int) == 1)=false:=by simp [hq2]
   have hwn:IntKind.i64.wrap ((n:Int)-1)=(n:Int)-1:=by rw [IntKind.wrap_i64];omega
   have HN:=ae (oI HGO.out hp2);obtain ⟨o,ho⟩:∃ o,o=nucR (q:Int) V:=⟨_,rfl⟩;rw [<-ho] at HN ⊢;have HQ:=ae hq2;clear ho hq2 hp2;go_enter Tryz.func52,Tryz.ntmps52
   go_wp2_with fail;rw [<-hW];refine HIV.out.mono ?_;rintro e w1 ⟨rfl,hx⟩;have c0:=hx.cellSome HP0.out;have c1:=hx.cellSome HP1.out;have X1:=ae hx;obtain ⟨w2,hw2⟩:∃ E,E=w1.alloc (.cells #[.bool true,.slice none 0 0,.slice none 0 0,.int .i64 0] 73):=⟨_,rfl⟩;have hb2:w2.heap[w1.heap.size]?=some (.cells #[.bool true,.slice none 0 0,.slice none 0 0,.int .i64 0] 73 (0,0)):=by rw [hw2];exact aj _ _ _ rfl
   have hx2:Ext w1 w2:=by rw [hw2];exact Ext.alloc _ _
   have X2:=ae (hx.trans hx2);have hbs:=hx.size;clear hx hW;go_upto_region 6 with fail;rw [<-hw2];clear hw2;have d0:=hx2.cellSome c0;have d1:=hx2.cellSome c1;clear c0 c1 hx2;generalize w1.heap.size=B at hb2 hbs ⊢
   have HO0:=ae (show NucO W (w2.alloc (.cells #[.int .i64 ((n:Int)-1)] 3)) B (.slice none 0 0) (.slice none 0 0) (.slice (some ⟨w2.heap.size,0,none⟩) 1 1) [] [] (((n:Int)-1) :: [].map fun f:Int × Int × Int=>f.1) 0 from
    ⟨(Ext.alloc _ _).blk hb2,OwnR.nil _ _,OwnG.nil _ _ _ _,OwnI.litN _ _ _ (by have:=lt_of_block hb2;omega),X2.out.trans (Ext.alloc _ _),hbs⟩)
   clear hb2;go_wp2_with fail
   go_loopg [4] ((frN V []).length+1) (fun gk ff wr=>∃ (k:Nat) (L:List (Int × Int × Int)) (pt:List (Int × Int)) (vp vs:Value) (aF:Option Addr) (nF cF:Nat),Hid (gk+k=(frN V []).length+1)/\ff=.slice aF nF cF/\Hid (NucO W wr B vp vs (.slice aF nF cF) pt L (((n:Int)-1) :: L.map fun f=>f.1) k)/\Hid ((frN V L).length+1<=gk)/\Hid (∀ f ∈ L,f.1<=1000)/\Hid (L.length<=32*k)/\Hid (nucS (q:Int) V gk pt L k=o))
   case atStart=>exact ⟨0,[],[],_,_,_,_,_,ae (by omega),rfl,HO0,ae (Nat.le_refl _),ae (fun f hf=>by cases hf),ae (by simp),HN⟩
   case round =>
    obtain ⟨g1,h_g1⟩:∃ x,x=gk:=⟨_,rfl⟩;subst h_g1;obtain ⟨wr1,h_wr1⟩:∃ x,x=wr:=⟨_,rfl⟩;subst h_wr1;obtain ⟨k,L,pt,vp,vs,aF,nF,cF,HK,rfl,HO,HFU,HLB,HLL,HOUT⟩:=hrel;obtain ⟨aP,nP,cP,rfl,HNP⟩:=HO.out.pt.var;obtain ⟨aS,nS,cS,rfl,HNS⟩:=HO.out.st.var;have HFR0:=ae (show (frN V []).length<=32 by have h1:(frN V []).length<=V.length-2:=dh [] (V.length-2);have h2:=HVL.out;omega);have hk33:k<=33:=by have h1:=HK.out;have h2:=HFR0.out;omega
    have hnS:nS<=1100:=by rw [<-HNS.out];have:=HLL.out;omega
    have hnF:nF<=1101:=by
     have h1:=HO.out.fx.ints.hlen;simp only [List.length_cons,List.length_map] at h1;have:=HLL.out;omega
    obtain ⟨rk,hrk⟩:∃ r,r=dX (q:Int) (((n:Int)-1) :: L.map fun f=>f.1):=⟨_,rfl⟩;have HRK:=ae (fun (w':World) (hx:Ext wr1 w')=>i_RankOf (n:=(q:Int)) (HO.out.fx.ext hx).ints (fix_bd (V:=V) (by omega) HLB.out) (by omega));simp only [<-hrk] at HRK;have hrle:rk<=(q:Int):=by rw [hrk];exact rankI_le (by omega) _
    have HDN:=ae (show dF (q:Int) V L=decide (rk=(q:Int)) by rw [hrk];unfold dF;rw [HVL.out]);have c0:=HO.out.ext.cellSome HP0.out;have hk:Ext wr1 wr1.drew:=Ext.drew wr1;clear hrk;by_cases hdn:rk<(q:Int)
    ·have HDF:=ae (show dF (q:Int) V L=false by rw [HDN.out];exact decide_eq_false (by omega));have hdd:decide (rk<(q:Int))=true:=decide_eq_true hdn;go_wp2_with fail;refine wp_region_held_drew (S:=(fun w'=>w'.cell? ⟨w.heap.size,0,none⟩=some (.int .i64 (q:Int))/\Ext wr1 w')) (by kernel_rfl) ?_ (fun hHeld=>?_)
     ·exact ⟨hk.cellSome c0,hk⟩
     refine tk 0 ?_;refine tk 1 ?_;refine tk 2 ?_;refine tk 4 ?_;refine tk 5 ?_;refine rd (i:=3) (h:=fun K hK=>?_);go_simp
     (go_at_call 132;refine (HRK.out _ hk).mono ?_;rintro e w3 ⟨rfl,hx3⟩;have hk:=hk.trans hx3)
     go_wp2_with fail;refine hK.out _ _ ?_ (fun hHeld=>?_)
     ·exact ⟨hk.cellSome c0,hk⟩
     clear hK K
     try simp only [Act.put,sA,sB,sC]
     refine tk 6 ?_;refine wpAnyH_done (by kernel_rfl) ?_ _;have HO3:=ae (HO.out.grow hk);have X3:=ae HO3.out.ext;obtain ⟨b0,b1,b2,b3,bf⟩:=nbox HO3.out.box;have e0:=X3.out.cellSome HP0.out;have e1:=X3.out.cellSome HP1.out;have HSP:=ae (pA (p:=(q:Int)) (HI.out.ext X3.out) HO3.out.st.fixs (by omega));obtain ⟨ok,hok⟩:∃ b,b=stOk (q:Int) V L:=⟨_,rfl⟩;rw [<-hok] at HSP;have HOK:=ae hok;clear hk c0 hHeld hok;go_wp2_with fail;refine HSP.out.mono ?_;rintro e w4 ⟨hret,hx4⟩;obtain ⟨la,lna,lca,lb,lnb,lcb,lc,lnc,lcc,rfl,hlp⟩:=hret.lpc;unfold lpW;obtain ⟨w5,hw5⟩:∃ E,E=w4.alloc (bm la lna lca lb lnb lcb lc lnc lcc):=⟨_,rfl⟩;have hx5:Ext w4 w5:=by rw [hw5];exact Ext.alloc _ _
     have K5:=ae (hx4.trans hx5);have X5:=ae (X3.out.trans K5.out);go_upto_region 9 with fail;rw [<-hw5];cases ok
     ·have HNO:=ae (show o=NucR.no by
       rw [<-HOUT.out]
       exact nV HDF.out (fun h=>by rw [<-HOK.out] at h;exact Bool.noConfusion h.1))
      obtain ⟨q0,q1,q2,q3,qf⟩:=HRX.out w5 X5.out;obtain ⟨z0,z1,z2,z3,_⟩:=HEND.out w5 X5.out (.bool false) (.slice none 0 0) (.slice none 0 0) (.int .i64 0);have HZ:=ae (HENX.out w5 X5.out (.bool false) (.slice none 0 0) (.slice none 0 0) (.int .i64 0));clear hw5 hx5 hx4 hlp hret b0 b1 b2 b3 bf e0 e1;go_wp2_with fail;refine bodyPost_ret (v:=.agg #[.bool false,.slice none 0 0,.slice none 0 0,.int .i64 0]) (by simp [results,Tryz.results52,go_sem,z0,z1,z2,z3]) rfl ⟨by rw [HNO.out];exact eI.no _ _,HZ.out⟩
     ·obtain ⟨E1,E2,E3⟩:=kF HOK.out.symm;rw [E1,E2,E3,Int.toNat_natCast] at hlp;have HSV0:=pz (hlp.ext hx5);obtain ⟨r,hr⟩:∃ r,r=bQ q V L:=⟨_,rfl⟩;rw [show bV aK (stA q V L) (stB q) (stC V L)=r from hr.symm] at HSV0;have HSV:=ae HSV0;have HRR:=ae hr;have t0:=al (show w5.heap[w4.heap.size]?=some (.cells #[.slice la lna lca,.slice lb lnb lcb,.slice lc lnc lcc] 109 (0,0)) by rw [hw5];exact aj _ _ _ rfl);have t1:=am (show w5.heap[w4.heap.size]?=some (.cells #[.slice la lna lca,.slice lb lnb lcb,.slice lc lnc lcc] 109 (0,0)) by rw [hw5];exact aj _ _ _ rfl);have t2:=ap (show w5.heap[w4.heap.size]?=some (.cells #[.slice la lna lca,.slice lb lnb lcb,.slice lc lnc lcc] 109 (0,0)) by rw [hw5];exact aj _ _ _ rfl);have HS5:=ae K5.out.size;clear E1 E2 E3 HSV0 hr hw5 hx5 hx4 hlp hret b0 b1 b2 b3 bf e0 e1;go_wp2_with fail;refine HSV.out.mono ?_;rintro e w6 ⟨⟨xa,xn,xc,ya,yn,yc,ra,rn,rc,rfl,hlr⟩,hx6⟩;obtain ⟨w7,hw7⟩:∃ E,E=w6.alloc (bS r xa xn xc ya yn yc ra rn rc):=⟨_,rfl⟩;have hx7:Ext w6 w7:=by rw [hw7];exact Ext.alloc _ _
      have K7:=ae ((K5.out.trans hx6).trans hx7);have X7:=ae (X3.out.trans K7.out);have HLR:=ae ((hlr.ext hx7).mono HS5.out);have HB7:=ae (show w7.heap[w6.heap.size]?=some (bS r xa xn xc ya yn yc ra rn rc) by rw [hw7];exact aj _ _ _ rfl);have HGL:=ae (show w3.heap.size<=w6.heap.size by have h1:=hx6.size;have h2:=HS5.out;omega)
      have HSZ:=ae (fun (hs:r.status=1)=>show (frN V L).length<=r.X.length/\r.Y.length=q+1/\valR r.value=true/\∀ k,k<r.Y.length->valR (r.Y[k]?.getD (0,0))=true by
       have:=kZ (p:=(q:Int)) HOK.out.symm (by rw [Int.toNat_natCast,<-HRR.out];exact hs);rw [Int.toNat_natCast,<-HRR.out] at this
       exact this)
      have HNX:=ae (fun (hs:r.status=1) (f:Nat)=>show nucS (q:Int) V (f+1) pt L k=nucS (q:Int) V f (ptN q r) (cV V L r) (k+1)/\(frN V (cV V L r)).length<(frN V L).length by
       have h1:=pQ (f:=f) (k:=k) (pt:=pt) HDF.out HOK.out.symm (by rw [Int.toNat_natCast,<-HRR.out];exact hs);have h2:=jQ HOK.out.symm (by rw [Int.toNat_natCast,<-HRR.out];exact hs);rw [Int.toNat_natCast,<-HRR.out] at h1 h2
       exact ⟨h1,h2⟩)
      obtain ⟨rs,rX,rY,rr,⟨rv1,rv2⟩,rp⟩:=r;unfold lrW;go_upto_region 12 with fail;rw [<-hw7];clear hlr hx6 hx7 hw7 t0 t1 t2;generalize w6.heap.size=G at HB7 HGL ⊢;have hGl:=lt_of_block HB7.out;obtain ⟨l0,l1,l2,l3,l4,l5,l6,lf⟩:=lbox HB7.out
      try simp only at l0 l1 l2 l3 l4 l5 l6
      by_cases hs:rs=1
      ·subst hs;obtain ⟨hxl,hyl,hvv,hyv⟩:=HSZ.out rfl
       try simp only at hxl hyl hvv hyv
       have hvb:=bh hvv
       try simp only at hvb
       have HXL:=ae hxl;have HYL:=ae hyl;have HYV:=ae hyv;have hyn:q<=yn:=by have h1:=HLR.out.y.here.hlen;have h2:=HYL.out;(try simp only at h1);omega
       have hyc:(q:Int)<=(yc:Int):=by have h1:=HLR.out.y.here.hcap;omega
       have HMA:=ae (oG (HLR.out.y.here.take hyn) (by omega) (fun i=>by
        by_cases hi:i<q
        ·rw [List.getElem?_take,if_pos hi]
         show -9223372036854775807<=(rY[i]?.getD (0,0)).1/\(rY[i]?.getD (0,0)).1<=9223372036854775807;have:=bh (HYV.out i (by rw [HYL.out];omega));omega
        ·rw [List.getElem?_take,if_neg hi];simp))
       have e0:=X7.out.cellSome HP0.out;have e1:=X7.out.cellSome HP1.out;clear hxl hyl hvv hyv;go_wp2_with fail;refine HMA.out.mono ?_;rintro e w8 ⟨⟨v,rfl,ho⟩,hx8⟩;obtain ⟨a8,n8,p8,rfl,HN8⟩:=ho.var;have HO8:=ae (HO3.out.grow (K7.out.trans hx8));obtain ⟨b0,b1,b2,b3,bf⟩:=nbox HO8.out.box;have HBL:=ae HO3.out.lt;have HP8:=ae (ho.mono (show B+1<=w7.heap.size by have h1:=HO3.out.lt;have h2:=K7.out.size;omega));have HS8:=ae ((Stay.refl w3.heap.size w7).ext hx8);have HX8:=ae hx8;obtain ⟨w9,hw9⟩:∃ E,E=w8.setCell ⟨B,1,none⟩ (.slice a8 n8 p8):=⟨_,rfl⟩;have HO9:=ae (HO8.out.setP HP8.out);rw [<-hw9] at HO9;have HS9:=ae (HS8.out.set (j:=1) HBL.out (.slice a8 n8 p8));rw [<-hw9] at HS9;clear ho hx8;go_upto_region 15 with fail;rw [<-hw9];clear hw9 b0 b1 b2 b3 bf e0 e1;obtain ⟨k1,hk1⟩:∃ x:Int,x=(k:Int)+1:=⟨_,rfl⟩;have hwk:IntKind.i64.wrap ((k:Int)+1)=k1:=by rw [IntKind.wrap_i64];omega
       have HK1:=ae (show k1=((k+1:Nat):Int) by omega);clear hk1;obtain ⟨b0,b1,b2,b3,bf⟩:=nbox HO9.out.box;obtain ⟨w10,hw10⟩:∃ E,E=w9.setCell ⟨B,3,none⟩ (.int .i64 k1):=⟨_,rfl⟩;have HO10:=ae (HO9.out.setK (k':=k+1) HK1.out);rw [<-hw10] at HO10;have HS10:=ae (HS9.out.set (j:=3) HBL.out (.int .i64 k1));rw [<-hw10] at HS10;go_upto_region 16 with fail;rw [<-hw10];clear hw10 b0 b1 b2 b3 bf hwk;obtain ⟨b0,b1,b2,b3,bf⟩:=nbox HO10.out.box;have e0:=HO10.out.ext.cellSome HP0.out;have e1:=HO10.out.ext.cellSome HP1.out;have hn3:3<=n:=by
        obtain ⟨q',hq',hq1',hq5',hl',_⟩:=dG HGO.out;have h4:=cN_ge (n:=q') (by have:=HQ.out;omega) hq5';have:=HVL.out;omega
       have HFC:=ae (fN (q:Int) a n cap hn3 (by omega) HO10.out.st.fixs);go_wp2_with fail;refine HFC.out.mono ?_;rintro e w11 ⟨⟨v,rfl,ho⟩,hx11⟩;obtain ⟨a11,m,c11,rfl,HM⟩:=ho.var;have HO11:=ae (HO10.out.grow hx11);have HS11:=ae (HS10.out.ext hx11);have HFN:=ae (show aN L (n-2)=frN V L by unfold frN;rw [HVL.out]);rw [HFN.out] at ho HM;have HF11:=ae (ho.mono (show w3.heap.size<=w10.heap.size by have h1:=HS10.out.size;have h2:=K7.out.size;omega));have HLR11:=ae (HS11.out.on HLR.out.x);have HB11:=ae (HS11.out.blk HGL.out HB7.out);have HOS:=ae (Off.of (hi:=w11.heap.size) HO3.out.st.lt (Nat.le_refl _));have HOF:=ae (Off.of (hi:=w11.heap.size) HO3.out.fx.lt (Nat.le_refl _));have hmx:m<=xn:=by have h1:=HLR11.out.here.hlen;have h2:=HXL.out;have h3:=HM.out;(try simp only at h1);omega
       have hm32:m<=32:=by
        have h1:(frN V L).length<=V.length-2:=dh L (V.length-2);have h2:=HVL.out;have h3:=HM.out;omega
       have HP11:=ae (show (L++newF (frN V L) ⟨1,rX,rY,rr,(rv1,rv2),rp⟩ 0)=L by rw [kY,List.append_nil]);clear ho hx11 b0 b1 b2 b3 bf e0 e1 l0 l1 l2 l3 l4 l5 l6 lf;go_wp2_with fail
       go_loopg [4,67] m (fun gk ff ii wr=>∃ (j:Nat) (vs':Value) (aF':Option Addr) (nF' cF':Nat),Hid (gk+j=m)/\ff=.slice aF' nF' cF'/\ii=.int .i64 (j:Int)/\Hid (NucO W wr B (.slice a8 n8 p8) vs' (.slice aF' nF' cF') ((rY.take q).map negR) (L++newF (frN V L) ⟨1,rX,rY,rr,(rv1,rv2),rp⟩ j) (((n:Int)-1) :: (L++newF (frN V L) ⟨1,rX,rY,rr,(rv1,rv2),rp⟩ j).map fun f=>f.1) (k+1))/\Hid (Stay w3.heap.size w11 wr)/\Hid (Off w3.heap.size w11.heap.size vs')/\Hid (Off w3.heap.size w11.heap.size (.slice aF' nF' cF')))
       case atStart=>exact ⟨0,_,_,_,_,ae (by omega),rfl,rfl,ae (by rw [HP11.out];exact HO11.out),ae (Stay.refl _ _),HOS,HOF⟩
       case round =>
        obtain ⟨g2,h_g2⟩:∃ x,x=gk:=⟨_,rfl⟩;subst h_g2;obtain ⟨wr2,h_wr2⟩:∃ x,x=wr:=⟨_,rfl⟩;subst h_wr2;obtain ⟨j,vs2,aF2,nF2,cF2,HJ,rfl,rfl,HO2,HS2,HOS2,HOF2⟩:=hrel;obtain ⟨aS2,nS2,cS2,rfl,HNS2⟩:=HO2.out.st.var;by_cases hjm:j<m
        ·have hjx:j<xn:=by omega
         obtain ⟨fb,foff,hfe,hfc⟩:=(HS2.out.ints (Nat.le_refl _) HF11.out).ints.at hjm;subst hfe;obtain ⟨xb,xoff,x1,x2,hxe,hxj,hxc1,hxc2⟩:=(HS2.out.on HLR11.out).here.at hjx;subst hxe;obtain ⟨l0,l1,l2,l3,l4,l5,l6,lf⟩:=lbox (HS2.out.blk HGL.out HB11.out)
         try simp only at l0 l1 l2 l3 l4 l5 l6 hxj
         obtain ⟨s,hs⟩:∃ s,s=(frN V L)[j]?.getD 0:=⟨_,rfl⟩;rw [<-hs] at hfc;by_cases hx0:0<x1
         ·have HNF:=ae (show (L++newF (frN V L) ⟨1,rX,rY,rr,(rv1,rv2),rp⟩ j)++[(s,-rv1,rv2)]=L++newF (frN V L) ⟨1,rX,rY,rr,(rv1,rv2),rp⟩ (j+1) by
           rw [gm,if_pos (by show 0<(rX[j]?.getD (0,0)).1;rw [hxj];exact hx0),<-hs,List.append_assoc])
          obtain ⟨b0,b1,b2,b3,bf⟩:=nbox HO2.out.box
          have HNL:=ae (show (L++newF (frN V L) ⟨1,rX,rY,rr,(rv1,rv2),rp⟩ j).length<=2000 by
           rw [List.length_append];have h1:=gZ (frN V L) ⟨1,rX,rY,rr,(rv1,rv2),rp⟩ j;have h2:=HLL.out
           omega)
          have HBW:=ae HO2.out.lt;clear hs;go_wp2_with fail;have hkd:Ext wr2 wr2.drew:=Ext.drew wr2;have HKEEP:=ae (fun (w':World) (h:Ext wr2 w')=>(⟨h.cellSome b2,h.cellSome l4,h.cellSome l5⟩:w'.cell? ⟨B,2,none⟩=some (.slice aS2 nS2 cS2)/\w'.cell? ⟨G,4,none⟩=some (.int .i64 rv1)/\w'.cell? ⟨G,5,none⟩=some (.int .i64 rv2)));refine ci (M:=[10]) (S:=fun w'=>w'.cell? ⟨B,2,none⟩=some (.slice aS2 nS2 cS2)/\w'.cell? ⟨G,4,none⟩=some (.int .i64 rv1)/\w'.cell? ⟨G,5,none⟩=some (.int .i64 rv2)) (by kernel_rfl) ?_;have hHeld:=HKEEP.out _ hkd;obtain ⟨wd,hwd⟩:∃ y,y=wr2.drew:=⟨_,rfl⟩;rw [<-hwd] at hkd hHeld;rw [<-hwd];clear hwd;refine lp 0 ?_;refine ll 1 ?_;refine lp 2 ?_;refine lp 3 ?_;refine ll 4 ?_;refine aG (i:=5) (oi:=?_) ?_ ?_ ?_ (fun K hK=>?_);rotate_left
          ·simp only [gA,gB,gC];rfl
          ·kernel_rfl
          ·kernel_rfl
          go_simp;go_at_call 137;refine (dM rv1 rv2 _ (by omega) (by omega)).mono ?_;rintro e w12 ⟨rfl,hx12⟩;have hkd:Ext wr2 w12:=hkd.trans hx12;have hs12:=hkd.size;go_wp2_with fail;refine hK.out _ _ (fun _=>HKEEP.out _ hkd) ?_;have hHeld:=HKEEP.out _ hkd;clear hK K
          try simp only [Act.put,sA,sB,sC]
          refine lp 6 ?_;refine aG (i:=7) (oi:=?_) ?_ ?_ ?_ (fun K hK=>?_);rotate_left
          ·simp only [gA,gB,gC];rfl
          ·kernel_rfl
          ·kernel_rfl
          go_simp;refine hK.out _ _ (fun _=>HKEEP.out _ (hkd.trans (Ext.alloc _ _))) ?_;clear hK K
          try simp only [Act.put,sA,sB,sC]
          refine aG (i:=8) (oi:=?_) ?_ ?_ ?_ (fun K hK=>?_);rotate_left
          ·simp only [gA,gB,gC];rfl
          ·kernel_rfl
          ·kernel_rfl
          refine ew fixE Tryz.infoFix rfl Tryz.underlying71 (by decide) _ _ (by rfl) (B+1) (.slice aS2 nS2 cS2) _ (by rfl) (HO2.out.st.ext (hkd.trans (Ext.alloc _ _))) _ 1 1 [(s,-rv1,rv2)] (by rfl) (Slc.lit fixE _ _ _ 1 (by rfl) _ (by rfl) _ (by rfl) (by omega)) (by have:=HNL.out;omega) (by have h2:=HBW.out;simp;omega) ?_;intro v13 w13 ho hg hnear;have HB13:=ae ((hg.block B (by have h2:=HBW.out;simp;omega) (fun e=>by have:=(HO2.out.st.lt B e.symm).1;omega)).trans ((hkd.trans (Ext.alloc _ _)).blk HO2.out.box));have HS13:=ae ((HS2.out.ext (hkd.trans (Ext.alloc _ _))).grown hg HOS2.out);have HN13:=ae (HOS2.out.near hnear (by have h1:=HS2.out.size;simp;omega));obtain ⟨a13,n13,c13,rfl,HNN13⟩:=ho.var;have HO13:=ae (HO2.out.grewS (hkd.trans (Ext.alloc _ _)) hg ho);obtain ⟨c0,c1,c2,c3,cf⟩:=nbox HB13.out;obtain ⟨m0,m1,m2,m3,m4,m5,m6,mf⟩:=lbox (HS13.out.blk HGL.out HB11.out)
          (try simp only at m0 m1 m2 m3 m4 m5 m6)
          clear ho hg hnear;refine hK.out _ _ (fun _=>And.intro c2 (And.intro m4 m5)) ?_;have hHeld:=And.intro c2 (And.intro m4 m5);clear hK K
          try simp only [Act.put,sA,sB,sC]
          refine lp 9 ?_;refine cq (i:=10) (oi:=?_) (w':=?_) ?_ ?_ ?_ ?_ ?_ ?_ ?_;rotate_left 2
          ·simp only [gA,gB,gC];rfl
          ·kernel_rfl
          ·kernel_rfl
          ·exact of_decide_eq_true (by kernel_rfl)
          ·rfl
          ·go_simp;(try with_reducible rfl)
          try simp only [Act.put,sA,sB,sC]
          refine cv (by kernel_rfl) ?_ _;rw [HNF.out] at HO13;obtain ⟨w14,hw14⟩:∃ y,y=w13.setCell ⟨B,2,none⟩ (.slice a13 n13 c13):=⟨_,rfl⟩;have HS14:=ae (HS13.out.set (j:=2) HBL.out (.slice a13 n13 c13));rw [<-hw14] at HO13 HS14;go_upto_region 21 with fail;rw [<-hw14];clear hw14 c0 c1 c2 c3 cf m0 m1 m2 m3 m4 m5 m6 mf b0 b1 b2 b3 bf l0 l1 l2 l3 l4 l5 l6 lf hHeld hkd HKEEP;have HB14:=ae HO13.out.lt;have HFL:=ae (show (((n:Int)-1) :: (L++newF (frN V L) ⟨1,rX,rY,rr,(rv1,rv2),rp⟩ j).map fun f=>f.1).length<=2001 by rw [List.length_cons,List.length_map];have:=HNL.out;omega)
          have HFE:=ae (show (((n:Int)-1) :: (L++newF (frN V L) ⟨1,rX,rY,rr,(rv1,rv2),rp⟩ j).map fun f=>f.1)++[s]=((n:Int)-1) :: (L++newF (frN V L) ⟨1,rX,rY,rr,(rv1,rv2),rp⟩ (j+1)).map fun f=>f.1 by
           rw [<-HNF.out];exact nJ _ _ (s,-rv1,rv2))
          go_wp2_with (first
           | (at_builtin;refine bw rfl _ _ rfl (B+1) (.slice aF2 nF2 cF2) _ rfl (HO13.out.fx.ext (Ext.alloc _ _)) _ 1 _ [s] rfl (Ints.oneS _ _ _ _ (by simp)) (by have:=HFL.out;omega) (by have h2:=HB14.out;simp;omega) ?_;intro v15 w15 ho hg hnear;have HS15:=ae ((HS14.out.ext (Ext.alloc _ _)).grown hg HOF2.out);have HN15:=ae (HOF2.out.near hnear (by have h1:=HS14.out.size;simp;omega));obtain ⟨a15,n15,c15,rfl,HNN15⟩:=ho.var;have HO15:=ae (HO13.out.grewF (Ext.alloc _ _) hg ho);clear ho hg hnear))
          rw [HFE.out] at HO15
          go_roundg (g2-1)
          case measure=>have:=HJ.out;omega
          case rel=>exact ⟨j+1,_,_,_,_,ae (by have:=HJ.out;omega),rfl,by go_num,HO15,HS15,HN13,HN15⟩
         ·have HNF:=ae (show (L++newF (frN V L) ⟨1,rX,rY,rr,(rv1,rv2),rp⟩ j)=L++newF (frN V L) ⟨1,rX,rY,rr,(rv1,rv2),rp⟩ (j+1) by
           rw [gm,if_neg (by show ¬ 0<(rX[j]?.getD (0,0)).1;rw [hxj];exact hx0),List.append_nil])
          clear hs;go_wp2_with fail
          go_roundg (g2-1)
          case measure=>have:=HJ.out;omega
          case rel=>exact ⟨j+1,_,_,_,_,ae (by have:=HJ.out;omega),rfl,by go_num,ae (by rw [<-HNF.out];exact HO2.out),HS2,HOS2,HOF2⟩
        ·have hjm':j=m:=by have:=HJ.out;omega
         have HE:=ae (show L++newF (frN V L) ⟨1,rX,rY,rr,(rv1,rv2),rp⟩ j=cV V L ⟨1,rX,rY,rr,(rv1,rv2),rp⟩ by unfold cV;rw [HM.out,hjm']);rw [HE.out] at HO2;have HBD:=ae (nQ (V:=V) (L:=L) (r:=⟨1,rX,rY,rr,(rv1,rv2),rp⟩) (k:=k) (by rw [HVL.out];exact hn32) HLB.out HLL.out);have HNXX:=ae (HNX.out trivial (g1-1));have HG1:=ae (show g1-1+1=g1 by have:=HFU.out;omega);subst hjm';go_wp2_with fail
         go_roundg (g1-1)
         case measure=>have:=HFU.out;omega
         case rel=>exact ⟨k+1,cV V L ⟨1,rX,rY,rr,(rv1,rv2),rp⟩,_,_,_,_,_,_,ae (by have h1:=HK.out;have h2:=HFU.out;omega),rfl,HO2,ae (by have h1:=HNXX.out.2;have h2:=HFU.out;omega),ae HBD.out.1,ae HBD.out.2,ae (by have h1:=HNXX.out.1;rw [HG1.out] at h1;exact h1.symm.trans HOUT.out)⟩
      ·have HNO:=ae (show o=NucR.no by
        rw [<-HOUT.out];refine nV HDF.out (fun h=>hs ?_);have:=h.2;rw [Int.toNat_natCast,<-HRR.out] at this
        exact this)
       have hsb:(rs != 1)=true:=by simp [hs]
       obtain ⟨q0,q1,q2,q3,qf⟩:=HRX.out w7 X7.out;obtain ⟨z0,z1,z2,z3,_⟩:=HEND.out w7 X7.out (.bool false) (.slice none 0 0) (.slice none 0 0) (.int .i64 0);have HZ:=ae (HENX.out w7 X7.out (.bool false) (.slice none 0 0) (.slice none 0 0) (.int .i64 0));go_wp2_with fail;refine bodyPost_ret (v:=.agg #[.bool false,.slice none 0 0,.slice none 0 0,.int .i64 0]) (by simp [results,Tryz.results52,go_sem,z0,z1,z2,z3]) rfl ⟨by rw [HNO.out];exact eI.no _ _,HZ.out⟩
    ·have HDT:=ae (show dF (q:Int) V L=true by rw [HDN.out];exact decide_eq_true (by omega));have hdd:decide (rk<(q:Int))=false:=decide_eq_false hdn;go_wp2_with fail;refine wp_region_held_drew (S:=(fun w'=>w'.cell? ⟨w.heap.size,0,none⟩=some (.int .i64 (q:Int))/\Ext wr1 w')) (by kernel_rfl) ?_ (fun hHeld=>?_)
     ·exact ⟨hk.cellSome c0,hk⟩
     refine tk 0 ?_;refine tk 1 ?_;refine tk 2 ?_;refine tk 4 ?_;refine tk 5 ?_;refine rd (i:=3) (h:=fun K hK=>?_);go_simp
     (go_at_call 132;refine (HRK.out _ hk).mono ?_;rintro e w3 ⟨rfl,hx3⟩;have hk:=hk.trans hx3)
     go_wp2_with fail;refine hK.out _ _ ?_ (fun hHeld=>?_)
     ·exact ⟨hk.cellSome c0,hk⟩
     clear hK K
     try simp only [Act.put,sA,sB,sC]
     refine tk 6 ?_;refine wpAnyH_done (by kernel_rfl) ?_ _;have HO3:=ae (HO.out.grow hk);obtain ⟨b0,b1,b2,b3,bf⟩:=nbox HO3.out.box;have X3:=ae HO3.out.ext;obtain ⟨q0,q1,q2,q3,qf⟩:=HRX.out w3 X3.out;obtain ⟨z0,z1,z2,z3,_⟩:=HEND.out w3 X3.out (.bool true) (.slice aP nP cP) (.slice aS nS cS) (.int .i64 (k:Int));have HZ:=ae (HENX.out w3 X3.out (.bool true) (.slice aP nP cP) (.slice aS nS cS) (.int .i64 (k:Int)));have HZO:=ae (HENO.out w3 X3.out (.bool true) (.slice aP nP cP) (.slice aS nS cS) (.int .i64 (k:Int)));have HR:=ae (show o=⟨true,pt,L,k⟩ by rw [<-HOUT.out];exact pP HDT.out);have HPT:=ae ((HO3.out.pt.keep (fun j hj=>HZO.out j (by have:=(HO3.out.pt.lt j hj).1;omega))).mono (show w.heap.size<=B+1 by omega));have HST:=ae ((HO3.out.st.keep (fun j hj=>HZO.out j (by have:=(HO3.out.st.lt j hj).1;omega))).mono (show w.heap.size<=B+1 by omega));clear hk c0 hHeld;go_wp2_with fail;refine bodyPost_ret (v:=.agg #[.bool true,.slice aP nP cP,.slice aS nS cS,.int .i64 (k:Int)]) (by simp [results,Tryz.results52,go_sem,z0,z1,z2,z3]) rfl ⟨by rw [HR.out];exact ⟨_,_,_,_,_,_,rfl,HPT.out,HST.out⟩,HZ.out⟩
end Go.Proofs.YthjjfkeacobikaaGreat
