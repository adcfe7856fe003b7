import Derived.Test.YthjjfkeacobikaaGreatPuAllG36
import Derived.Test.YthjjfkeacobikaaGreatPuAllG42
import Derived.Test.YthjjfkeacobikaaGreatPuAllG43
import Derived.Test.YthjjfkeacobikaaGreatPuAllG20
import Derived.Test.YthjjfkeacobikaaGreatPuAllG27
import Derived.Test.YthjjfkeacobikaaGreatPuAllG12
set_option linter.unusedVariables false
set_option linter.unusedSimpArgs false
namespace Go.Proofs.YthjjfkeacobikaaGreat
set_option maxRecDepth 100000
open Go.RowKit
theorem OwnI.litN' (w:World) (base:Nat) (x:Int) (hb:base<=w.heap.size):OwnI (w.alloc (.cells #[.int .i64 x] 3)) base (.slice (some ⟨w.heap.size,0,none⟩) 1 1) [x] :=
 World.ownsRow_lit w #[.int .i64 x] 1 hb (by simp [maxLen]) rfl
theorem doneN_S {p:Int} {V:List Int} {L:List (Int × Int × Int)} {n:Nat} (hn:V.length=n):dF p V L=decide (fA p (((n:Int)-1) :: L.map fun f=>f.1)=p):=by
 unfold dF;rw [hn,pW]
theorem qa {a b:Bool} (h:a=b):Ending.returned (.bool a)=.returned (.bool b):=by rw [h]
set_option maxHeartbeats 8000000 in
theorem qh {w:World} {p:Int} {a:Option Addr} {n cap:Nat} {V:List Int} (hn:V.length=n) (hn32:n<=1000) {fa:Option Addr} {fn fcap:Nat} {L:List (Int × Int × Int)} (h:Fixs w fa fn fcap L) (hfn:fn<=1000000) (hL:∀ f ∈ L,f.1<=1000) :
 Calls Tryz.prog 126 #[pair p a n cap,.slice fa fn fcap] w fun e w'=>e=.returned (.bool (dF p V L))/\Ext w w':=by
 obtain ⟨W,hW⟩:∃ W,W=w.alloc (.cells #[.int .i64 p,.slice a n cap] 29):=⟨_,rfl⟩;have HX:=ae (show Ext w W by rw [hW];exact Ext.alloc _ _);have HWS:=ae (show W.heap.size=w.heap.size+1 by rw [hW];simp);have HP0:=ae (show W.cell? ⟨w.heap.size,0,none⟩=some (.int .i64 p) by rw [hW];simp);have HP1:=ae (show W.cell? ⟨w.heap.size,1,none⟩=some (.slice a n cap) by rw [hW];simp);have HF:=ae (h.ext HX.out);have HFL:=ae h.hlen;have HLB:=ae hL;have hwn:IntKind.i64.wrap ((n:Int)-1)=(n:Int)-1:=by rw [IntKind.wrap_i64];omega
 have HD:=ae (doneN_S (p:=p) (L:=L) hn);clear hn h hL;have HO0:=ae (show OwnI (W.alloc (.cells #[.int .i64 ((n:Int)-1)] 3)) W.heap.size (.slice (some ⟨W.heap.size,0,none⟩) 1 1) (((n:Int)-1) :: (L.take 0).map fun f=>f.1) from OwnI.litN' _ _ _ (Nat.le_refl _));go_enter Tryz.func126,Tryz.ntmps126
 go_upto_region 1 with fail;rw [<-hW];have e0:=HP0.out;have e1:=HP1.out;rw [HWS.out] at HO0;clear hW;go_wp2_with fail
 go_loopg [5,6] fn (fun gk ff ii wr=>∃ (k:Nat) (aF:Option Addr) (nF cF:Nat),Hid (gk+k=fn)/\ff=.slice aF nF cF/\ii=.int .i64 (k:Int)/\Hid (OwnI wr (w.heap.size+1) (.slice aF nF cF) (((n:Int)-1) :: (L.take k).map fun f=>f.1))/\Hid (Ext W wr))
 case atStart=>exact ⟨0,_,_,_,ae (by omega),by rw [HWS.out],rfl,HO0,ae (Ext.alloc _ _)⟩
 case round =>
  obtain ⟨g1,h_g1⟩:∃ x,x=gk:=⟨_,rfl⟩;subst h_g1;obtain ⟨wr1,h_wr1⟩:∃ x,x=wr:=⟨_,rfl⟩;subst h_wr1;obtain ⟨k,aF,nF,cF,HK,rfl,rfl,HO,HXR⟩:=hrel;have hsz:=HXR.out.size;rw [HWS.out] at hsz;by_cases hlt:k<fn
  ·obtain ⟨fb,foff,hfe,hfx,hfc⟩:∃ b off,fa=some ⟨b,off,none⟩/\L[k]?=some (L[k]?.getD (0,0,0))/\wr1.cell? ⟨b,off+k*3,none⟩=some (.int .i64 (L[k]?.getD (0,0,0)).1):=by
    obtain ⟨b,off,e,hc⟩:=(HF.out.ext HXR.out).cell k hlt;have hkl:k<L.length:=by rw [HFL.out];exact hlt
    exact ⟨b,off,e,by rw [List.getElem?_eq_getElem hkl];rfl,(hc k hlt).1⟩
   subst hfe
   have HSN:=ae (show (((n:Int)-1) :: (L.take k).map fun f=>f.1)++[(L[k]?.getD (0,0,0)).1]=((n:Int)-1) :: (L.take (k+1)).map fun f=>f.1 by
    rw [nJ,<-fD hfx])
   obtain ⟨s,hs⟩:∃ s,s=(L[k]?.getD (0,0,0)).1:=⟨_,rfl⟩;rw [<-hs] at hfc HSN;have HLN:=ae (show (((n:Int)-1) :: (L.take k).map fun f=>f.1).length<=1000001 by rw [List.length_cons,List.length_map,List.length_take];omega);clear hfx hs
   go_wp2_with (first
    | (at_builtin;refine bw rfl _ _ rfl (w.heap.size+1) (.slice aF nF cF) _ rfl (HO.out.ext (Ext.alloc _ _)) _ 1 _ [s] rfl (Ints.oneS _ _ _ _ (by simp)) (by have:=HLN.out;omega) (by simp;omega) ?_;intro v2 w2 ho hg hnear;have X2:=ae ((HXR.out.trans (Ext.alloc _ _)).grown hg (fun j hj=>by rw [HWS.out];exact (HO.out.lt j hj).1));obtain ⟨a2,n2,c2,rfl,HN2⟩:=ho.var;have HO2:=ae ho;clear ho hg hnear))
   rw [HSN.out] at HO2
   go_roundg (g1-1)
   case measure=>have:=HK.out;omega
   case rel=>exact ⟨k+1,_,_,_,ae (by have:=HK.out;omega),rfl,by go_num,HO2,X2⟩
  ·have hk2:k=fn:=by have:=HK.out;omega
   have HTK:=ae (show L.take k=L from List.take_of_length_le (by rw [HFL.out];omega));rw [HTK.out] at HO;have hnF:nF<=1000001:=by
    have h1:=HO.out.ints.hlen;simp only [List.length_cons,List.length_map] at h1;have:=HFL.out;omega
   have HRK:=ae (fun (w':World) (hx:Ext wr1 w')=>s_RankOf (n:=p) (HO.out.ext hx).ints (fix_bd (V:=V) (by omega) HLB.out) (by omega));obtain ⟨rk,hrk⟩:∃ r,r=fA p (((n:Int)-1) :: L.map fun f=>f.1):=⟨_,rfl⟩;simp only [<-hrk] at HRK HD;clear hrk;have c0:=HXR.out.cellSome HP0.out;have HBE:=ae (show (rk == p)=dF p V L by rw [HD.out];rfl);go_wp2_with fail;have hk:Ext wr1 wr1.drew:=Ext.drew wr1;refine wp_region_held_drew (S:=(fun w'=>w'.cell? ⟨w.heap.size,0,none⟩=some (.int .i64 p))) (by kernel_rfl) ?_ (fun hHeld=>?_)
   ·exact hk.cellSome c0
   refine tk 0 ?_;refine tk 1 ?_;refine tk 2 ?_;refine tk 4 ?_;refine tk 5 ?_;refine rd (i:=3) (h:=fun K hK=>?_);go_simp
   (go_at_call 188;refine (HRK.out _ hk).mono ?_;rintro e w3 ⟨rfl,hx3⟩;have hk:=hk.trans hx3)
   go_wp2_with fail;refine hK.out _ _ ?_ (fun hHeld=>?_)
   ·exact hk.cellSome c0
   clear hK K
   try simp only [Act.put,sA,sB,sC]
   refine tk 6 ?_;refine tk 7 ?_;refine wpAnyH_done (by kernel_rfl) ?_ _;have HZ:=ae ((HX.out.trans HXR.out).trans hk);clear hk c0 hHeld;go_wp2_with fail;go_ret;exact ⟨qa HBE.out,HZ.out⟩
theorem pO {p:Int} {V:List Int} (h:(bL p V&&p == 1)=false):nucF p V ((frN V []).length+1) [] 0=nucR p V:=by
 unfold nucR;cases hg:bL p V
 ·rw [if_neg (by simp)];exact kz (fun hc=>by have:=(fC hc.1).1;rw [hg] at this;cases this)
 ·rw [if_pos rfl];rw [hg,Bool.true_and] at h;rw [if_neg (by simpa using h)]
theorem pN {p:Int} {V:List Int} {f k:Nat} {L:List (Int × Int × Int)} (h:stOk p V L=true) (hs:(bQ p.toNat V L).status=1) :
 nucF p V (f+1) L k=if dF p V (cV V L (bQ p.toNat V L))=true then ⟨true,ptN p.toNat (bQ p.toNat V L),cV V L (bQ p.toNat V L),k+1⟩ else nucF p V f (cV V L (bQ p.toNat V L)) (k+1):=by
 conv=>lhs;unfold nucF
 rw [if_pos ⟨h,hs⟩]
theorem OwnR.lit1' (w:World) (base:Nat) (x y:Int) (hb:base<=w.heap.size):OwnR (w.alloc (.cells #[.int .i64 x,.int .i64 y] 43)) base (.slice (some ⟨w.heap.size,0,none⟩) 1 1) [(x,y)] :=
 ⟨by simp [ratL],.inr ⟨w.heap.size,1,_,rfl,hb,heap_alloc_new w _,Nat.le_refl _,by decide,rfl,by simp [ratL]⟩⟩
set_option maxHeartbeats 16000000 in
theorem kd {w:World} {p:Int} {a:Option Addr} {n cap:Nat} {V:List Int} (h:Ints w a n cap V) :
 Calls Tryz.prog 48 #[pair p a n cap] w fun e w'=>eI w' w.heap.size e (nucR p V)/\Ext w w':=by
 obtain ⟨W,hW⟩:∃ W,W=(w.alloc (.cells #[.int .i64 p,.slice a n cap] 29)).alloc (.cells #[.bool false,.slice none 0 0,.slice none 0 0,.int .i64 0] 73):=⟨_,rfl⟩;have hws:W.heap.size=w.heap.size+2:=by rw [hW];simp
 have hX:Ext w W:=by rw [hW];exact (Ext.alloc _ _).trans (Ext.alloc _ _)
 have HRB:=ae (show W.heap[w.heap.size+1]?=some (.cells #[.bool false,.slice none 0 0,.slice none 0 0,.int .i64 0] 73 (0,0)) by rw [hW];exact aj _ _ _ (by simp));have HP0:=ae (show W.cell? ⟨w.heap.size,0,none⟩=some (.int .i64 p) by rw [hW];exact Ext.cellSome (Ext.alloc _ _) (by simp));have HP1:=ae (show W.cell? ⟨w.heap.size,1,none⟩=some (.slice a n cap) by rw [hW];exact Ext.cellSome (Ext.alloc _ _) (by simp));have HI:=ae (h.ext hX);have HX:=ae hX;have HVL:=ae h.hlen;have hcapn:=h.hcap;have hcapm:=h.hmax;have HEND:=ae (fun (w':World) (hx:Ext W w') (v0 v1 v2 v3:Value)=>nbox (nput ((hx.block _ (by omega)).trans HRB.out) v0 v1 v2 v3).1);have HENX:=ae (fun (w':World) (hx:Ext W w') (v0 v1 v2 v3:Value)=>nputX (w:=w) (r:=w.heap.size+1) (HX.out.trans hx) (Nat.le_succ _) v0 v1 v2 v3);have HENO:=ae (fun (w':World) (hx:Ext W w') (v0 v1 v2 v3:Value)=>(nput ((hx.block (w.heap.size+1) (by omega)).trans HRB.out) v0 v1 v2 v3).2);have HRX:=ae (fun (w':World) (hx:Ext W w')=>nbox ((hx.block _ (by omega)).trans HRB.out));obtain ⟨B,hB⟩:∃ B,B=w.heap.size+2:=⟨_,rfl⟩;obtain ⟨w1,hw1⟩:∃ E,E=W.alloc (.cells #[.bool true,.slice none 0 0,.slice none 0 0,.int .i64 0] 73):=⟨_,rfl⟩;have X1:=ae (show Ext W w1 by rw [hw1];exact Ext.alloc _ _)
 have HO1:=ae (show NucO W w1 B (.slice none 0 0) (.slice none 0 0) (.slice none 0 0) [] [] [] 0 from
  ⟨by rw [hw1];exact aj _ _ _ (by omega),OwnR.nil _ _,OwnG.nil _ _ _ _,World.ownsRow_nil _ _ _ _,X1.out,by omega⟩)
 have HIV:=ae (fj (p:=p) (HI.out.ext X1.out));obtain ⟨gb,hgb⟩:∃ b,b=bL p V:=⟨_,rfl⟩;rw [<-hgb] at HIV;have HGB:=ae hgb;have HBS:=ae hB;have hbs:W.heap.size<=B:=by omega
 obtain ⟨o,ho⟩:∃ o,o=nucR p V:=⟨_,rfl⟩;rw [<-ho];have HOO:=ae ho;clear h hX hgb ho;go_enter Tryz.func48,Tryz.ntmps48
 go_upto_region 2 with fail;rw [<-hW,<-hw1,show w.heap.size+1+1=B from hB.symm];clear hW hw1 hB
 go_cut [17] (fun s17 wx=>s17=.bool (gb&&p == 1)/\Hid (Ext w1 wx))
 case first =>
  have c0:=X1.out.cellSome HP0.out;have c1:=X1.out.cellSome HP1.out;cases gb
  ·go_wp2_with fail;refine HIV.out.mono ?_;rintro e wx ⟨rfl,hx⟩;have HXX:=ae hx;clear hx;go_wp2_with fail;go_meet;exact ⟨rfl,HXX⟩
  ·go_wp2_with fail;refine HIV.out.mono ?_;rintro e wx ⟨rfl,hx⟩;have HXX:=ae hx;have c0:=hx.cellSome c0;have c1:=hx.cellSome c1;clear hx;go_wp2_with fail;go_meet;exact ⟨rfl,HXX⟩
 obtain ⟨rfl,HXC⟩:=hcut;have HOC:=ae (HO1.out.grow HXC.out);obtain ⟨bb,hbb⟩:∃ b,b=(gb&&p == 1):=⟨_,rfl⟩;rw [<-hbb];have HBB:=ae hbb;clear hbb;generalize wc=w2 at HOC HXC ⊢;cases bb
 ·have HN:=ae (show nucF p V ((frN V []).length+1) [] 0=o by rw [HOO.out];exact pO (by rw [<-HGB.out];exact HBB.out.symm));go_wp2_with fail
  go_loopg [] ((frN V []).length+1) (fun gk wr=>∃ (k:Nat) (L:List (Int × Int × Int)) (pt:List (Int × Int)) (vp vs:Value),Hid (gk+k=(frN V []).length+1)/\Hid (NucO W wr B vp vs (.slice none 0 0) pt L [] k)/\Hid ((frN V L).length+1<=gk)/\Hid (∀ f ∈ L,f.1<=1000)/\Hid (L.length<=32*k)/\Hid (k<=40)/\Hid (nucF p V gk L k=o))
  case atStart=>exact ⟨0,[],[],_,_,ae (by omega),HOC,ae (Nat.le_refl _),ae (fun f hf=>by cases hf),ae (by simp),ae (by omega),HN⟩
  case round =>
   obtain ⟨g1,h_g1⟩:∃ x,x=gk:=⟨_,rfl⟩;subst h_g1;obtain ⟨wr1,h_wr1⟩:∃ x,x=wr:=⟨_,rfl⟩;subst h_wr1;obtain ⟨k,L,pt,vp,vs,HK,HO,HFU,HLB,HLL,HKL,HOUT⟩:=hrel;obtain ⟨aS,nS,cS,rfl,HNS⟩:=HO.out.st.var;have hk40:=HKL.out;have hnS:nS<=1300:=by rw [<-HNS.out];have:=HLL.out;omega
   obtain ⟨b0,b1,b2,b3,bf⟩:=nbox HO.out.box;have e0:=HO.out.ext.cellSome HP0.out;have e1:=HO.out.ext.cellSome HP1.out;have HSP:=ae (qg (p:=p) (HI.out.ext HO.out.ext) HO.out.st.fixs (by omega));obtain ⟨ok,hok⟩:∃ b,b=stOk p V L:=⟨_,rfl⟩;rw [<-hok] at HSP;have HOK:=ae hok;clear hok;go_wp2_with fail;refine HSP.out.mono ?_;rintro e w4 ⟨hret,hx4⟩;obtain ⟨la,lna,lca,lb,lnb,lcb,lc,lnc,lcc,rfl,hlp⟩:=hret.lpc;unfold lpW;obtain ⟨w5,hw5⟩:∃ E,E=w4.alloc (bm la lna lca lb lnb lcb lc lnc lcc):=⟨_,rfl⟩;have hx5:Ext w4 w5:=by rw [hw5];exact Ext.alloc _ _
   have K5:=ae (hx4.trans hx5);have X5:=ae (HO.out.ext.trans K5.out);have HSV0:=qe (hlp.ext hx5);obtain ⟨r,hr⟩:∃ r,r=ef (stAx p V L) (stBx p V L) (stCx p V L):=⟨_,rfl⟩;rw [<-hr] at HSV0;have HSV:=ae HSV0;have HRS:=ae hr;have t0:=al (show w5.heap[w4.heap.size]?=some (.cells #[.slice la lna lca,.slice lb lnb lcb,.slice lc lnc lcc] 109 (0,0)) by rw [hw5];exact aj _ _ _ rfl);have t1:=am (show w5.heap[w4.heap.size]?=some (.cells #[.slice la lna lca,.slice lb lnb lcb,.slice lc lnc lcc] 109 (0,0)) by rw [hw5];exact aj _ _ _ rfl);have t2:=ap (show w5.heap[w4.heap.size]?=some (.cells #[.slice la lna lca,.slice lb lnb lcb,.slice lc lnc lcc] 109 (0,0)) by rw [hw5];exact aj _ _ _ rfl);have HS5:=ae K5.out.size;go_upto_region 6 with fail;rw [<-hw5];clear HSV0 hr hw5 hx5 hx4 hlp hret b0 b1 b2 b3 bf e0 e1;go_wp2_with fail;refine HSV.out.mono ?_;rintro e w6 ⟨⟨xa,xn,xc,ya,yn,yc,ra,rn,rc,rfl,hlr⟩,hx6⟩;obtain ⟨w7,hw7⟩:∃ E,E=w6.alloc (bS r xa xn xc ya yn yc ra rn rc):=⟨_,rfl⟩;have hx7:Ext w6 w7:=by rw [hw7];exact Ext.alloc _ _
   have K7:=ae ((K5.out.trans hx6).trans hx7);have X7:=ae (HO.out.ext.trans K7.out);have HLR:=ae ((hlr.ext hx7).mono HS5.out);have HB7:=ae (show w7.heap[w6.heap.size]?=some (bS r xa xn xc ya yn yc ra rn rc) by rw [hw7];exact aj _ _ _ rfl);have HGL:=ae (show wr1.heap.size<=w6.heap.size by have h1:=hx6.size;have h2:=HS5.out;omega);obtain ⟨q,hq⟩:∃ q,q=p.toNat:=⟨_,rfl⟩
   have HRR:=ae (fun (h:ok=true)=>show r=bQ q V L by
    have hok:=HOK.out.symm.trans h;obtain ⟨E1,E2,E3⟩:=kF hok;rw [HRS.out,E1,E2,E3,hq]
    exact (nuc_both hok).symm)
   have HQ:=ae hq;obtain ⟨rs,rX,rY,rr,⟨rv1,rv2⟩,rp⟩:=r;unfold lrW;go_upto_region 7 with fail;rw [<-hw7];clear hlr hx6 hx7 hw7 t0 t1 t2 hq HRS;generalize w6.heap.size=G at HB7 HGL ⊢;have hGl:=lt_of_block HB7.out;obtain ⟨l0,l1,l2,l3,l4,l5,l6,lf⟩:=lbox HB7.out
   try simp only at l0 l1 l2 l3 l4 l5 l6
   by_cases hgo:ok=true/\rs=1
   ·obtain ⟨rfl,rfl⟩:=hgo;obtain ⟨hgm,hp2,_,_⟩:=fC HOK.out.symm;obtain ⟨_,h32,hpq,hq1,hq5,_⟩:=fG hgm;have HR1:=ae (HRR.out rfl);have HSZ:=ae (kZ HOK.out.symm (by rw [<-HQ.out,<-HR1.out]));have HFE:=ae (jQ HOK.out.symm (by rw [<-HQ.out,<-HR1.out]));have HNX:=ae (fun f=>pN (f:=f) (k:=k) HOK.out.symm (by rw [<-HQ.out,<-HR1.out]));rw [<-HQ.out,<-HR1.out] at HSZ HFE HNX;rw [<-HQ.out] at hpq hq1 hq5;have HGM:=ae hgm;have HPQ:=ae hpq;have hn32:n<=32:=by rw [<-HVL.out];exact h32
    have hq2:2<=q:=by omega
    clear hgm h32 hpq;obtain ⟨hxl,hyl,hvv,hyv⟩:=HSZ.out
    try simp only at hxl hyl hvv hyv
    have hvb:=bh hvv
    try simp only at hvb
    have HXL:=ae hxl;have HYL:=ae hyl;have HYV:=ae hyv;have hyn:q+1=yn:=by have h1:=HLR.out.y.here.hlen;have h2:=HYL.out;(try simp only at h1);omega
    have HQ2:=ae hq2;clear hxl hyl hvv hyv hp2;have HO7:=ae (HO.out.grow K7.out);have HBL:=ae HO.out.lt;have HS7:=ae (Stay.refl wr1.heap.size w7);obtain ⟨b0,b1,b2,b3,bf⟩:=nbox HO7.out.box;obtain ⟨k1,hk1⟩:∃ x:Int,x=(k:Int)+1:=⟨_,rfl⟩;have hwk:IntKind.i64.wrap ((k:Int)+1)=k1:=by rw [IntKind.wrap_i64];omega
    have HK1:=ae (show k1=((k+1:Nat):Int) by omega);clear hk1;obtain ⟨w8,hw8⟩:∃ E,E=w7.setCell ⟨B,3,none⟩ (.int .i64 k1):=⟨_,rfl⟩;have HO8:=ae (HO7.out.setK (k':=k+1) HK1.out);have HS8:=ae (HS7.out.set (j:=3) HBL.out (.int .i64 k1));rw [<-hw8] at HO8 HS8;go_upto_region 10 with fail;rw [<-hw8];clear hw8 b0 b1 b2 b3 bf hwk;obtain ⟨b0,b1,b2,b3,bf⟩:=nbox HO8.out.box;obtain ⟨w9,hw9⟩:∃ E,E=w8.setCell ⟨B,1,none⟩ (.slice none 0 0):=⟨_,rfl⟩;have HO9:=ae (HO8.out.setP (OwnR.nil _ _));have HS9:=ae (HS8.out.set (j:=1) HBL.out (.slice none 0 0));rw [<-hw9] at HO9 HS9;go_upto_region 11 with fail;rw [<-hw9];clear hw9 b0 b1 b2 b3 bf l0 l1 l2 l3 l4 l5 l6 lf;have HB9:=ae (HS9.out.blk HGL.out HB7.out);have HLRX:=ae (HS9.out.on HLR.out.x);have HLRY:=ae (HS9.out.on HLR.out.y);go_wp2_with fail
    go_loopg [7] q (fun gk ii wr=>∃ (j:Nat) (vp':Value),Hid (gk+j=q)/\ii=.int .i64 (j:Int)/\Hid (NucO W wr B vp' (.slice aS nS cS) (.slice none 0 0) ((rY.take j).map negR) L [] (k+1))/\Hid (Stay wr1.heap.size w9 wr)/\Hid (Off wr1.heap.size w9.heap.size vp'))
    case atStart=>exact ⟨0,_,ae (by omega),rfl,HO9,ae (Stay.refl _ _),ae (Off.nil _ _ _ _)⟩
    case round =>
     obtain ⟨g2,h_g2⟩:∃ x,x=gk:=⟨_,rfl⟩;subst h_g2;obtain ⟨wr2,h_wr2⟩:∃ x,x=wr:=⟨_,rfl⟩;subst h_wr2;obtain ⟨j,vp2,HJ,rfl,HO2,HS2,HOF2⟩:=hrel;obtain ⟨aP2,nP2,cP2,rfl,HNP2⟩:=HO2.out.pt.var;have c0:=HO2.out.ext.cellSome HP0.out;by_cases hjq:j<q
     ·have hjy:j<yn:=by omega
      have hjp:(j:Int)<p:=by have:=HPQ.out;omega
      obtain ⟨yb,yoff,y1,y2,hye,hyj,hyc1,hyc2⟩:=(HS2.out.on HLRY.out).here.at hjy;subst hye
      try simp only at hyj
      obtain ⟨l0,l1,l2,l3,l4,l5,l6,lf⟩:=lbox (HS2.out.blk HGL.out HB9.out)
      try simp only at l0 l1 l2 l3 l4 l5 l6
      obtain ⟨b0,b1,b2,b3,bf⟩:=nbox HO2.out.box
      have HSN:=ae (show ((rY.take j).map negR)++[(-y1,y2)]=(rY.take (j+1)).map negR by
       have hjl:j<rY.length:=by have:=HYL.out;omega
       rw [List.take_succ_eq_append_getElem hjl,List.map_append,List.map_singleton];rw [List.getElem?_eq_getElem hjl,Option.getD_some] at hyj
       rw [hyj];rfl)
      have hyb:-9223372036854775807<=y1/\y1<=9223372036854775807:=by
       have:=bh (HYV.out j (by have:=HYL.out;omega));rw [hyj] at this;simp only at this;omega
      have HNL:=ae (show ((rY.take j).map negR).length<=100 by rw [List.length_map,List.length_take];omega);have HBW:=ae HO2.out.lt;have HYJ:=ae hyj;clear hyj;go_wp2_with fail;have hkd:Ext wr2 wr2.drew:=Ext.drew wr2;have HKEEP:=ae (fun (w':World) (h:Ext wr2 w')=>(⟨h.cellSome b1,h.cellSome l2,h.cellSome hyc1,h.cellSome hyc2⟩:w'.cell? ⟨B,1,none⟩=some (.slice aP2 nP2 cP2)/\w'.cell? ⟨G,2,none⟩=some (.slice (some ⟨yb,yoff,none⟩) yn yc)/\w'.cell? ⟨yb,yoff+j*2,none⟩=some (.int .i64 y1)/\w'.cell? ⟨yb,yoff+j*2+1,none⟩=some (.int .i64 y2)));refine ci (M:=[11]) (S:=fun w'=>w'.cell? ⟨B,1,none⟩=some (.slice aP2 nP2 cP2)/\w'.cell? ⟨G,2,none⟩=some (.slice (some ⟨yb,yoff,none⟩) yn yc)/\w'.cell? ⟨yb,yoff+j*2,none⟩=some (.int .i64 y1)/\w'.cell? ⟨yb,yoff+j*2+1,none⟩=some (.int .i64 y2)) (by kernel_rfl) ?_;have hHeld:=HKEEP.out _ hkd;obtain ⟨wd,hwd⟩:∃ y,y=wr2.drew:=⟨_,rfl⟩;rw [<-hwd] at hkd hHeld;rw [<-hwd];clear hwd;refine lp 0 ?_;refine ll 1 ?_;refine lp 2 ?_;refine ll 3 ?_;refine lp 4 ?_;refine lp 5 ?_;refine ll 6 ?_;refine aG (i:=7) (oi:=?_) ?_ ?_ ?_ (fun K hK=>?_);rotate_left
      ·simp only [gA,gB,gC];rfl
      ·kernel_rfl
      ·kernel_rfl
      go_simp;go_at_call 88;refine (eu y1 y2 _ (by omega) (by omega)).mono ?_;rintro e w12 ⟨rfl,hx12⟩;have hkd:Ext wr2 w12:=hkd.trans hx12;have hs12:=hkd.size;go_wp2_with fail;refine hK.out _ _ (fun _=>HKEEP.out _ hkd) ?_;have hHeld:=HKEEP.out _ hkd;clear hK K
      try simp only [Act.put,sA,sB,sC]
      refine aG (i:=8) (oi:=?_) ?_ ?_ ?_ (fun K hK=>?_);rotate_left
      ·simp only [gA,gB,gC];rfl
      ·kernel_rfl
      ·kernel_rfl
      go_simp;refine hK.out _ _ (fun _=>HKEEP.out _ (hkd.trans (Ext.alloc _ _))) ?_;clear hK K
      try simp only [Act.put,sA,sB,sC]
      refine aG (i:=9) (oi:=?_) ?_ ?_ ?_ (fun K hK=>?_);rotate_left
      ·simp only [gA,gB,gC];rfl
      ·kernel_rfl
      ·kernel_rfl
      refine dd _ _ (by rfl) (B+1) (.slice aP2 nP2 cP2) _ (by rfl) (HO2.out.pt.ext (hkd.trans (Ext.alloc _ _))) _ 1 _ [(-y1,y2)] (by rfl) (Rats.one' _ _ _ _ _ (by simp)) (by have:=HNL.out;omega) (by have h2:=HBW.out;simp;omega) ?_;intro v13 w13 ho hg hnear;have HB13:=ae ((hg.block B (by have h2:=HBW.out;simp;omega) (fun e=>by have:=(HO2.out.pt.lt B e.symm).1;omega)).trans ((hkd.trans (Ext.alloc _ _)).blk HO2.out.box));have HS13:=ae ((HS2.out.ext (hkd.trans (Ext.alloc _ _))).grown hg HOF2.out);have HN13:=ae (HOF2.out.near hnear (by have h1:=HS2.out.size;simp;omega));obtain ⟨a13,n13,c13,rfl,HNN13⟩:=ho.var;have HO13:=ae (HO2.out.grewP (hkd.trans (Ext.alloc _ _)) hg ho);obtain ⟨c0,c1,c2,c3,cf⟩:=nbox HB13.out;obtain ⟨m0,m1,m2,m3,m4,m5,m6,mf⟩:=lbox (HS13.out.blk HGL.out HB9.out)
      (try simp only at m0 m1 m2 m3 m4 m5 m6)
      obtain ⟨yb',yoff',y1',y2',hye',hyj',hyd1,hyd2⟩:=(HS13.out.on HLRY.out).here.at hjy;simp only [Option.some.injEq,Addr.mk.injEq,and_true] at hye';obtain ⟨rfl,rfl⟩:=hye';have hy12:=HYJ.out.symm.trans hyj';simp only [Prod.mk.injEq] at hy12;obtain ⟨rfl,rfl⟩:=hy12;clear ho hg hnear hyj';refine hK.out _ _ (fun _=>And.intro c1 (And.intro m2 (And.intro hyd1 hyd2))) ?_;have hHeld:=And.intro c1 (And.intro m2 (And.intro hyd1 hyd2));clear hK K
      try simp only [Act.put,sA,sB,sC]
      refine lp 10 ?_;refine cq (i:=11) (oi:=?_) (w':=?_) ?_ ?_ ?_ ?_ ?_ ?_ ?_;rotate_left 2
      ·simp only [gA,gB,gC];rfl
      ·kernel_rfl
      ·kernel_rfl
      ·exact of_decide_eq_true (by kernel_rfl)
      ·rfl
      ·go_simp;(try with_reducible rfl)
      try simp only [Act.put,sA,sB,sC]
      refine cv (by kernel_rfl) ?_ _;rw [HSN.out] at HO13;obtain ⟨w14,hw14⟩:∃ y,y=w13.setCell ⟨B,1,none⟩ (.slice a13 n13 c13):=⟨_,rfl⟩;have HS14:=ae (HS13.out.set (j:=1) HBL.out (.slice a13 n13 c13));rw [<-hw14] at HO13 HS14;go_upto_region 13 with fail;rw [<-hw14];clear hw14 c0 c1 c2 c3 cf m0 m1 m2 m3 m4 m5 m6 mf b0 b1 b2 b3 bf l0 l1 l2 l3 l4 l5 l6 lf hyd1 hyd2 hyc1 hyc2 hHeld hkd HKEEP;go_wp2_with fail
      go_roundg (g2-1)
      case measure=>have:=HJ.out;omega
      case rel=>exact ⟨j+1,_,ae (by have:=HJ.out;omega),by go_num,HO13,HS14,HN13⟩
     ·have hjq':j=q:=by have:=HJ.out;omega
      have hjp:¬ (j:Int)<p:=by have:=HPQ.out;omega
      rw [hjq'] at HO2;have HS2':=ae HS2.out;obtain ⟨b0,b1,b2,b3,bf⟩:=nbox HO2.out.box;have e1:=HO2.out.ext.cellSome HP1.out;have HFC:=ae (ix p a n cap (by omega) HO2.out.st.fixs);clear hjq';go_wp2_with fail;refine HFC.out.mono ?_;rintro e w11 ⟨⟨v,rfl,ho⟩,hx11⟩;obtain ⟨a11,m,c11,rfl,HM⟩:=ho.var;have HO11:=ae (HO2.out.grow hx11);have HS11:=ae (HS2.out.ext hx11);have HS911:=ae (show w9.heap.size<=w11.heap.size from HS11.out.size);have HFN:=ae (show aN L (n-2)=frN V L by unfold frN;rw [HVL.out]);rw [HFN.out] at ho HM;have HF11:=ae (ho.mono (show wr1.heap.size<=wr2.heap.size by have h1:=HS2.out.size;have h2:=HS9.out.size;have h3:=K7.out.size;omega));have HLRX11:=ae (HS11.out.on HLRX.out);have HB11:=ae (HS11.out.blk HGL.out HB9.out);have HOS:=ae (Off.of (hi:=w11.heap.size) HO.out.st.lt (Nat.le_refl _));have hmx:m<=xn:=by have h1:=HLRX11.out.here.hlen;have h2:=HXL.out;have h3:=HM.out;(try simp only at h1);omega
      have hm32:m<=32:=by
       have h1:(frN V L).length<=V.length-2:=dh L (V.length-2);have h2:=HVL.out;have h3:=HM.out;omega
      have HP11:=ae (show (L++newF (frN V L) ⟨1,rX,rY,rr,(rv1,rv2),rp⟩ 0)=L by rw [kY,List.append_nil]);clear ho hx11 b0 b1 b2 b3 bf e1 c0 hjp hjq;go_wp2_with fail
      go_loopg [9] m (fun gk ii wr=>∃ (j:Nat) (vs':Value),Hid (gk+j=m)/\ii=.int .i64 (j:Int)/\Hid (NucO W wr B (.slice aP2 nP2 cP2) vs' (.slice none 0 0) ((rY.take q).map negR) (L++newF (frN V L) ⟨1,rX,rY,rr,(rv1,rv2),rp⟩ j) [] (k+1))/\Hid (Stay wr1.heap.size w11 wr)/\Hid (Off wr1.heap.size w11.heap.size vs'))
      case atStart=>exact ⟨0,_,ae (by omega),rfl,ae (by rw [HP11.out];exact HO11.out),ae (Stay.refl _ _),HOS⟩
      case round =>
       obtain ⟨g3,h_g3⟩:∃ x,x=gk:=⟨_,rfl⟩;subst h_g3;obtain ⟨wr3,h_wr3⟩:∃ x,x=wr:=⟨_,rfl⟩;subst h_wr3;obtain ⟨j3,vs3,HJ3,rfl,HO3,HS3,HOS3⟩:=hrel;obtain ⟨aS3,nS3,cS3,rfl,HNS3⟩:=HO3.out.st.var;by_cases hjm:j3<m
       ·have hjx:j3<xn:=by omega
        obtain ⟨fb,foff,hfe,hfc⟩:=(HS3.out.ints (Nat.le_refl _) HF11.out).ints.at hjm;subst hfe;obtain ⟨xb,xoff,x1,x2,hxe,hxj,hxc1,hxc2⟩:=(HS3.out.on HLRX11.out).here.at hjx;subst hxe;obtain ⟨l0,l1,l2,l3,l4,l5,l6,lf⟩:=lbox (HS3.out.blk HGL.out HB11.out)
        try simp only at l0 l1 l2 l3 l4 l5 l6 hxj
        obtain ⟨s,hs⟩:∃ s,s=(frN V L)[j3]?.getD 0:=⟨_,rfl⟩;rw [<-hs] at hfc;by_cases hx0:0<x1
        ·have HNF:=ae (show (L++newF (frN V L) ⟨1,rX,rY,rr,(rv1,rv2),rp⟩ j3)++[(s,-rv1,rv2)]=L++newF (frN V L) ⟨1,rX,rY,rr,(rv1,rv2),rp⟩ (j3+1) by
          rw [gm,if_pos (by show 0<(rX[j3]?.getD (0,0)).1;rw [hxj];exact hx0),<-hs,List.append_assoc])
         obtain ⟨b0,b1,b2,b3,bf⟩:=nbox HO3.out.box
         have HNL:=ae (show (L++newF (frN V L) ⟨1,rX,rY,rr,(rv1,rv2),rp⟩ j3).length<=2000 by
          rw [List.length_append];have h1:=gZ (frN V L) ⟨1,rX,rY,rr,(rv1,rv2),rp⟩ j3;have h2:=HLL.out
          omega)
         have HBW:=ae HO3.out.lt;have HSS:=ae hs;clear hs;go_wp2_with fail;have hkd:Ext wr3 wr3.drew:=Ext.drew wr3;have HKEEP:=ae (fun (w':World) (h:Ext wr3 w')=>(⟨h.cellSome b2,h.cellSome l4,h.cellSome l5,h.cellSome hfc⟩:w'.cell? ⟨B,2,none⟩=some (.slice aS3 nS3 cS3)/\w'.cell? ⟨G,4,none⟩=some (.int .i64 rv1)/\w'.cell? ⟨G,5,none⟩=some (.int .i64 rv2)/\w'.cell? ⟨fb,foff+j3,none⟩=some (.int .i64 s)));refine ci (M:=[13]) (S:=fun w'=>w'.cell? ⟨B,2,none⟩=some (.slice aS3 nS3 cS3)/\w'.cell? ⟨G,4,none⟩=some (.int .i64 rv1)/\w'.cell? ⟨G,5,none⟩=some (.int .i64 rv2)/\w'.cell? ⟨fb,foff+j3,none⟩=some (.int .i64 s)) (by kernel_rfl) ?_;have hHeld:=HKEEP.out _ hkd;obtain ⟨wd,hwd⟩:∃ y,y=wr3.drew:=⟨_,rfl⟩;rw [<-hwd] at hkd hHeld;rw [<-hwd];clear hwd;refine lp 0 ?_;refine ll 1 ?_;refine lp 2 ?_;refine lp 3 ?_;refine lp 4 ?_;refine ll 5 ?_;refine lp 6 ?_;refine ll 7 ?_;refine aG (i:=8) (oi:=?_) ?_ ?_ ?_ (fun K hK=>?_);rotate_left
         ·simp only [gA,gB,gC];rfl
         ·kernel_rfl
         ·kernel_rfl
         go_simp;go_at_call 88;refine (eu rv1 rv2 _ (by omega) (by omega)).mono ?_;rintro e w12 ⟨rfl,hx12⟩;have hkd:Ext wr3 w12:=hkd.trans hx12;have hs12:=hkd.size;go_wp2_with fail;refine hK.out _ _ (fun _=>HKEEP.out _ hkd) ?_;have hHeld:=HKEEP.out _ hkd;clear hK K
         try simp only [Act.put,sA,sB,sC]
         refine lp 9 ?_;refine aG (i:=10) (oi:=?_) ?_ ?_ ?_ (fun K hK=>?_);rotate_left
         ·simp only [gA,gB,gC];rfl
         ·kernel_rfl
         ·kernel_rfl
         go_simp;refine hK.out _ _ (fun _=>HKEEP.out _ (hkd.trans (Ext.alloc _ _))) ?_;clear hK K
         try simp only [Act.put,sA,sB,sC]
         refine aG (i:=11) (oi:=?_) ?_ ?_ ?_ (fun K hK=>?_);rotate_left
         ·simp only [gA,gB,gC];rfl
         ·kernel_rfl
         ·kernel_rfl
         refine ew fixE Tryz.infoFix rfl Tryz.underlying71 (by decide) _ _ (by rfl) (B+1) (.slice aS3 nS3 cS3) _ (by rfl) (HO3.out.st.ext (hkd.trans (Ext.alloc _ _))) _ 1 1 [(s,-rv1,rv2)] (by rfl) (Slc.lit fixE _ _ _ 1 (by rfl) _ (by rfl) _ (by rfl) (by omega)) (by have:=HNL.out;omega) (by have h2:=HBW.out;simp;omega) ?_;intro v13 w13 ho hg hnear;have HB13:=ae ((hg.block B (by have h2:=HBW.out;simp;omega) (fun e=>by have:=(HO3.out.st.lt B e.symm).1;omega)).trans ((hkd.trans (Ext.alloc _ _)).blk HO3.out.box));have HS13:=ae ((HS3.out.ext (hkd.trans (Ext.alloc _ _))).grown hg HOS3.out);have HN13:=ae (HOS3.out.near hnear (by have h1:=HS3.out.size;simp;omega));obtain ⟨a13,n13,c13,rfl,HNN13⟩:=ho.var;have HO13:=ae (HO3.out.grewS (hkd.trans (Ext.alloc _ _)) hg ho);obtain ⟨c0,c1,c2,c3,cf⟩:=nbox HB13.out;obtain ⟨m0,m1,m2,m3,m4,m5,m6,mf⟩:=lbox (HS13.out.blk HGL.out HB11.out)
         (try simp only at m0 m1 m2 m3 m4 m5 m6)
         obtain ⟨fb',foff',hfe',hfc'⟩:=(HS13.out.ints (Nat.le_refl _) HF11.out).ints.at hjm;simp only [Option.some.injEq,Addr.mk.injEq,and_true] at hfe';obtain ⟨rfl,rfl⟩:=hfe';rw [<-HSS.out] at hfc';clear ho hg hnear;refine hK.out _ _ (fun _=>And.intro c2 (And.intro m4 (And.intro m5 hfc'))) ?_;have hHeld:=And.intro c2 (And.intro m4 (And.intro m5 hfc'));clear hK K
         try simp only [Act.put,sA,sB,sC]
         refine lp 12 ?_;refine cq (i:=13) (oi:=?_) (w':=?_) ?_ ?_ ?_ ?_ ?_ ?_ ?_;rotate_left 2
         ·simp only [gA,gB,gC];rfl
         ·kernel_rfl
         ·kernel_rfl
         ·exact of_decide_eq_true (by kernel_rfl)
         ·rfl
         ·go_simp;(try with_reducible rfl)
         try simp only [Act.put,sA,sB,sC]
         refine cv (by kernel_rfl) ?_ _;rw [HNF.out] at HO13;obtain ⟨w14,hw14⟩:∃ y,y=w13.setCell ⟨B,2,none⟩ (.slice a13 n13 c13):=⟨_,rfl⟩;have HS14:=ae (HS13.out.set (j:=2) HBL.out (.slice a13 n13 c13));rw [<-hw14] at HO13 HS14;go_upto_region 18 with fail;rw [<-hw14];clear hw14 c0 c1 c2 c3 cf m0 m1 m2 m3 m4 m5 m6 mf b0 b1 b2 b3 bf l0 l1 l2 l3 l4 l5 l6 lf hHeld hkd HKEEP hfc hfc';go_wp2_with fail
         go_roundg (g3-1)
         case measure=>have:=HJ3.out;omega
         case rel=>exact ⟨j3+1,_,ae (by have:=HJ3.out;omega),by go_num,HO13,HS14,HN13⟩
        ·have HNF:=ae (show (L++newF (frN V L) ⟨1,rX,rY,rr,(rv1,rv2),rp⟩ j3)=L++newF (frN V L) ⟨1,rX,rY,rr,(rv1,rv2),rp⟩ (j3+1) by
          rw [gm,if_neg (by show ¬ 0<(rX[j3]?.getD (0,0)).1;rw [hxj];exact hx0),List.append_nil])
         clear hs;go_wp2_with fail
         go_roundg (g3-1)
         case measure=>have:=HJ3.out;omega
         case rel=>exact ⟨j3+1,_,ae (by have:=HJ3.out;omega),by go_num,ae (by rw [<-HNF.out];exact HO3.out),HS3,HOS3⟩
       ·have hjm':j3=m:=by have:=HJ3.out;omega
        have HE:=ae (show L++newF (frN V L) ⟨1,rX,rY,rr,(rv1,rv2),rp⟩ j3=cV V L ⟨1,rX,rY,rr,(rv1,rv2),rp⟩ by unfold cV;rw [HM.out,hjm']);rw [HE.out] at HO3;clear hjm';obtain ⟨N,hN⟩:∃ N,N=cV V L ⟨1,rX,rY,rr,(rv1,rv2),rp⟩:=⟨_,rfl⟩;have HBD:=ae (nQ (V:=V) (L:=L) (r:=⟨1,rX,rY,rr,(rv1,rv2),rp⟩) (k:=k) (by rw [HVL.out];exact hn32) HLB.out HLL.out);have HNXX:=ae (HNX.out (g1-1));have HG1:=ae (show g1-1+1=g1 by have:=HFU.out;omega);rw [HG1.out,HOUT.out] at HNXX;have HFE2:=ae HFE.out;rw [<-hN] at HO3 HBD HNXX HFE2;clear hN;have hnS3:nS3<=100000:=by have h1:=HNS3.out;have h2:=HBD.out.2;have h3:=HO3.out.st.fixs.hlen;omega
        have HLD:=ae (qh (p:=p) (a:=a) (cap:=cap) HVL.out (by omega) HO3.out.st.fixs (by omega) HBD.out.1);obtain ⟨d,hd⟩:∃ d,d=dF p V N:=⟨_,rfl⟩;rw [<-hd] at HLD HNXX;obtain ⟨b0,b1,b2,b3,bf⟩:=nbox HO3.out.box;have e0:=HO3.out.ext.cellSome HP0.out;have e1:=HO3.out.ext.cellSome HP1.out;clear hd;go_wp2_with fail;refine HLD.out.mono ?_;rintro e w15 ⟨rfl,hx15⟩;have HO15:=ae (HO3.out.grow hx15);clear b0 b1 b2 b3 bf e0 e1 hx15;cases d
        ·have HR:=ae (show nucF p V (g1-1) N (k+1)=o from HNXX.out.symm);go_wp2_with fail
         go_roundg (g1-1)
         case measure=>have:=HFU.out;omega
         case rel=>exact ⟨k+1,N,_,_,_,ae (by have h1:=HK.out;have h2:=HFU.out;omega),HO15,ae (by have h1:=HFE2.out;have h2:=HFU.out;omega),ae HBD.out.1,ae HBD.out.2,ae (by have h1:=HK.out;have h2:=HFU.out;have h3:(frN V []).length<=V.length-2:=dh [] (V.length-2);have h4:=HVL.out;omega),HR⟩
        ·have HR:=ae (show o=⟨true,(rY.take q).map negR,N,k+1⟩ from HNXX.out);obtain ⟨b0,b1,b2,b3,bf⟩:=nbox HO15.out.box;have X15:=ae HO15.out.ext;obtain ⟨q0,q1,q2,q3,qf⟩:=HRX.out w15 X15.out;obtain ⟨kk,hkk⟩:∃ x:Int,x=((k+1:Nat):Int):=⟨_,rfl⟩;rw [<-hkk] at b3;have HKK:=ae hkk;clear hkk;obtain ⟨z0,z1,z2,z3,_⟩:=HEND.out w15 X15.out (.bool true) (.slice aP2 nP2 cP2) (.slice aS3 nS3 cS3) (.int .i64 kk);have HZ:=ae (HENX.out w15 X15.out (.bool true) (.slice aP2 nP2 cP2) (.slice aS3 nS3 cS3) (.int .i64 kk));have HZO:=ae (HENO.out w15 X15.out (.bool true) (.slice aP2 nP2 cP2) (.slice aS3 nS3 cS3) (.int .i64 kk));have HPT:=ae ((HO15.out.pt.keep (fun j hj=>HZO.out j (by have:=(HO15.out.pt.lt j hj).1;omega))).mono (show w.heap.size<=B+1 by omega));have HST:=ae ((HO15.out.st.keep (fun j hj=>HZO.out j (by have:=(HO15.out.st.lt j hj).1;omega))).mono (show w.heap.size<=B+1 by omega));go_wp2_with fail;refine bodyPost_ret (v:=.agg #[.bool true,.slice aP2 nP2 cP2,.slice aS3 nS3 cS3,.int .i64 kk]) (by simp [results,Tryz.results48,go_sem,z0,z1,z2,z3]) rfl ⟨by rw [HR.out];exact ⟨_,_,_,_,_,_,by rw [HKK.out],HPT.out,HST.out⟩,HZ.out⟩
   ·have HNO:=ae (show o=NucR.no by
     rw [<-HOUT.out];refine kz (fun h=>hgo ?_);rw [<-HOK.out,<-HQ.out] at h;refine ⟨h.1,?_⟩;have h2:=h.2;rw [<-HRR.out h.1] at h2
     exact h2)
    obtain ⟨q0,q1,q2,q3,qf⟩:=HRX.out w7 X7.out;obtain ⟨z0,z1,z2,z3,_⟩:=HEND.out w7 X7.out (.bool false) (.slice none 0 0) (.slice none 0 0) (.int .i64 0);have HZ:=ae (HENX.out w7 X7.out (.bool false) (.slice none 0 0) (.slice none 0 0) (.int .i64 0));cases ok
    ·go_wp2_with fail;refine bodyPost_ret (v:=.agg #[.bool false,.slice none 0 0,.slice none 0 0,.int .i64 0]) (by simp [results,Tryz.results48,go_sem,z0,z1,z2,z3]) rfl ⟨by rw [HNO.out];exact eI.no _ _,HZ.out⟩
    ·have hsb:(rs != 1)=true:=by
      have:rs ≠ 1:=fun h=>hgo ⟨rfl,h⟩
      simp [this]
     go_wp2_with fail;refine bodyPost_ret (v:=.agg #[.bool false,.slice none 0 0,.slice none 0 0,.int .i64 0]) (by simp [results,Tryz.results48,go_sem,z0,z1,z2,z3]) rfl ⟨by rw [HNO.out];exact eI.no _ _,HZ.out⟩
 ·have hp1:p=1:=by
   have:=HBB.out;cases gb
   ·cases this
   ·simpa using this.symm
  have hg1:bL p V=true:=by
   have:=HBB.out;rw [<-HGB.out];cases gb
   ·cases this
   ·rfl
  have HOV:=ae (show o=⟨true,[(dS p V,1)],[],0⟩ by rw [HOO.out];unfold nucR;rw [if_pos hg1,if_pos hp1]);have HGV:=ae (mB (p:=p) (HI.out.ext HOC.out.ext));obtain ⟨g,hg⟩:∃ g,g=dS p V:=⟨_,rfl⟩;rw [<-hg] at HGV HOV;have c0:=HOC.out.ext.cellSome HP0.out;have c1:=HOC.out.ext.cellSome HP1.out;clear hp1 hg1 hg;go_wp2_with fail;refine HGV.out.mono ?_;rintro e w3 ⟨rfl,hx3⟩;go_wp2_with fail;refine (ce g _).mono ?_;rintro e w4 ⟨rfl,hx4⟩;have hx5:Ext w2 (w4.alloc (.cells #[.int .i64 g,.int .i64 1] 43)):=(hx3.trans hx4).trans (Ext.alloc _ _);have HO5:=ae (HOC.out.grow hx5);have HOR:=ae (OwnR.lit1' w4 (B+1) g 1 (by have h1:=HOC.out.lt;have h2:=(hx3.trans hx4).size;omega));have HO6:=ae (HO5.out.setP HOR.out);obtain ⟨b0,b1,b2,b3,bf⟩:=nbox HO5.out.box;obtain ⟨w6,hw6⟩:∃ E,E=(w4.alloc (.cells #[.int .i64 g,.int .i64 1] 43)).setCell ⟨B,1,none⟩ (.slice (some ⟨w4.heap.size,0,none⟩) 1 1):=⟨_,rfl⟩;rw [<-hw6] at HO6;clear hx3 hx4 hx5 c0 c1;go_upto_region 4 with fail;rw [<-hw6];generalize w4.heap.size=G at HO6 ⊢;clear hw6 b0 b1 b2 b3 bf;obtain ⟨b0,b1,b2,b3,bf⟩:=nbox HO6.out.box;have X6:=ae HO6.out.ext;obtain ⟨q0,q1,q2,q3,qf⟩:=HRX.out w6 X6.out;obtain ⟨z0,z1,z2,z3,_⟩:=HEND.out w6 X6.out (.bool true) (.slice (some ⟨G,0,none⟩) 1 1) (.slice none 0 0) (.int .i64 0);have HZ:=ae (HENX.out w6 X6.out (.bool true) (.slice (some ⟨G,0,none⟩) 1 1) (.slice none 0 0) (.int .i64 0))
  have HZO:=ae (HENO.out w6 X6.out (.bool true) (.slice (some ⟨G,0,none⟩) 1 1) (.slice none 0 0) (.int .i64 0));have HPT:=ae ((HO6.out.pt.keep (fun j hj=>HZO.out j (by have:=(HO6.out.pt.lt j hj).1;omega))).mono (show w.heap.size<=B+1 by omega));have HST:=ae ((HO6.out.st.keep (fun j hj=>HZO.out j (by have:=(HO6.out.st.lt j hj).1;omega))).mono (show w.heap.size<=B+1 by omega));go_wp2_with fail;refine bodyPost_ret (v:=.agg #[.bool true,.slice (some ⟨G,0,none⟩) 1 1,.slice none 0 0,.int .i64 0]) (by simp [results,Tryz.results48,go_sem,z0,z1,z2,z3]) rfl ⟨by rw [HOV.out];exact ⟨_,_,_,_,_,_,rfl,HPT.out,HST.out⟩,HZ.out⟩
end Go.Proofs.YthjjfkeacobikaaGreat
