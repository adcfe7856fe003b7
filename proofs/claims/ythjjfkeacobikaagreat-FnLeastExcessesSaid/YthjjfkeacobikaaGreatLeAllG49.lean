import Derived.Test.YthjjfkeacobikaaGreatLeAllG30
import Derived.Test.YthjjfkeacobikaaGreatLeAllG44
import Derived.Test.YthjjfkeacobikaaGreatLeAllG17
set_option linter.unusedVariables false
set_option linter.unusedSimpArgs false
namespace Go.Proofs.YthjjfkeacobikaaGreat
set_option maxRecDepth 100000
open Go.RowKit
theorem LpO.aside {w w2:World} {base g b2:Nat} {vc:Value} {C:List (Int × Int)} {v:Value} {l:List Int} (h:LpO w base g (.slice none 0 0) (.slice none 0 0) vc [] [] [] C) (ho:OwnI w b2 v l) (hg:w.grownBy w2 v.ownBlock) :
 LpO w2 base g (.slice none 0 0) (.slice none 0 0) vc [] [] [] C :=
 ⟨(hg.block g h.lt (ap ho h.box (by decide))).trans h.box,h.hg,OwnV.nil _ _,bj.nil _ _,OwnI.nil _ _,OffV.nil _,h.c.keptI (Ext.refl _) ho hg⟩
theorem offB {w:World} {base:Nat} {v v' vb:Value} {B:List Int} (h:∀ j,v.ownBlock=some j->vb.ownBlock ≠ some j) (hb:OwnI w base vb B) (hn:Near w v v'):∀ j,v'.ownBlock=some j->vb.ownBlock ≠ some j:=fun j hj e=>by
 rcases hn j hj with h1|h1
 ·exact h j h1 e
 ·have:=(hb.lt j e).2;omega
theorem rq {p:Int} {V:List Int} {m:Nat} (hm:m+1=V.length):(dH V).take (m-1)++[(bz p V,1)]=co p V:=by
 unfold co;rw [show V.length-2=m-1 by omega]
theorem pQ {n m k:Nat} (hm:m+1=n):memR (seqI 1 (m-1)) k++[-1]=dR n k:=by
 unfold dR;rw [show n-2=m-1 by omega]
theorem bj.snocA {w:World} {base:Nat} {vs:List Value} {L:List (List Int)} (h:bj w base vs L) {v:Value} {l:List Int} (ho:OwnI w base v l) (hoff:OffV vs v):bj w base (vs++[v]) (L++[l]):=by
 refine ⟨by simp [h.len],fun i hi=>?_,fun i j k hij hj hk=>?_⟩
 ·by_cases hl:i<L.length
  ·rw [List.getElem?_append_left (by rw [h.len];exact hl),List.getElem?_append_left hl];exact h.row i hl
  ·have:i=L.length:=by simp at hi;omega
   subst this;rw [<-h.len];simp only [List.getElem?_concat_length,Option.getD_some];rw [h.len];simp only [List.getElem?_concat_length,Option.getD_some];exact ho
 ·by_cases hl:j<L.length
  ·rw [List.getElem?_append_left (by rw [h.len];omega)] at hk;rw [List.getElem?_append_left (by rw [h.len];exact hl)];exact h.apart i j k hij hl hk
  ·have:j=L.length:=by simp at hj;omega
   subst this;rw [List.getElem?_append_left (by rw [h.len];omega)] at hk;rw [<-h.len];simp only [List.getElem?_concat_length,Option.getD_some];exact hoff i k (by rw [h.len];omega) hk
section
variable {w w2:World} {base g:Nat} {va vb vc:Value} {vs:List Value} {A:List (List Int)} {B:List Int} {C:List (Int × Int)}
theorem LpO.growRow (h:LpO w base g va vb vc vs A B C) {b2:Nat} {v:Value} {l:List Int} (ho:OwnI w b2 v l) (hgr:w.grownBy w2 v.ownBlock) (hoff:OffV vs v) (hb:∀ k,v.ownBlock=some k->vb.ownBlock ≠ some k):LpO w2 base g va vb vc vs A B C :=
 ⟨(hgr.block g h.lt (ap ho h.box (by decide))).trans h.box,h.hg,h.a.keep (fun k hk=>hgr.block k (h.a.lt k hk).2 fun e=>ho.apart h.a k e.symm hk),
   h.rows.keep (fun i k hi hk=>hgr.block k ((h.rows.row i hi).lt k hk).2 fun e=>hoff i k (by rw [h.rows.len];exact hi) hk e.symm),
   h.b.keep (fun k hk=>hgr.block k (h.b.lt k hk).2 fun e=>hb k e.symm hk),h.off,h.c.keptI (Ext.refl _) ho hgr⟩
theorem LpO.pushA2 (h:LpO w base g va vb vc vs A B C) {vr va':Value} {r:List Int} (hr:OwnI w base vr r) (hoff:OffV vs vr) (hb:∀ k,vr.ownBlock=some k->vb.ownBlock ≠ some k) (hgr:w.grownBy w2 va.ownBlock) (ho:OwnV w2 base va' (vs++[vr])) :
 LpO (w2.setCell ⟨g,0,none⟩ va') base g va' vb vc (vs++[vr]) (A++[r]) B C:=by
 have hbox:w2.heap[g]?=some (.cells #[va,vb,vc] 109 (0,0)):=(hgr.block g h.lt h.neA).trans h.box;have hset:∀ k,k ≠ g->(w2.setCell ⟨g,0,none⟩ va').heap[k]?=w2.heap[k]?:=fun k hk=>heap_setCell_other _ _ _ _ hk
 have hB2:OwnI w2 base vb B:=h.b.keep fun k hk=>hgr.block k (h.b.lt k hk).2 fun e=>h.b.apart h.a k hk e.symm
 have hC2:OwnR w2 base vc C:=h.c.keep fun k hk=>hgr.block k (h.c.lt k hk).2 fun e=>aW (by decide) h.c h.a k hk e.symm
 have hR1:bj w base (vs++[vr]) (A++[r]):=h.rows.snocA hr hoff;have hR2:bj w2 base (vs++[vr]) (A++[r]):=hR1.keep fun i k hi hk=>hgr.block k ((hR1.row i hi).lt k hk).2 fun e=>(hR1.row i hi).apart h.a k hk e.symm
 refine ⟨?_,h.hg,?_,?_,?_,?_,?_⟩
 ·have:=LpO.store (w:=w2) (w':=w2) (k:=0) (v:=va') hbox;exact this
 ·exact ho.keep fun k hk=>hset k fun e=>(ap ho hbox (by decide)) (by rw [hk,e])
 ·exact hR2.keep fun i k hi hk=>hset k fun e=>(ap (hR2.row i hi) hbox (by decide)) (by rw [hk,e])
 ·exact hB2.keep fun k hk=>hset k fun e=>(ap hB2 hbox (by decide)) (by rw [hk,e])
 ·intro i k hi hk hk';by_cases hl:i<vs.length
  ·rw [List.getElem?_append_left hl] at hk;exact h.off i k hl hk hk'
  ·have hie:i=vs.length:=by simp at hi;omega
   subst hie;rw [List.getElem?_concat_length,Option.getD_some] at hk;exact hb k hk hk'
 ·exact hC2.keep fun k hk=>hset k fun e=>(ap hC2 hbox (by decide)) (by rw [hk,e])
end
set_option maxHeartbeats 16000000 in
theorem tC {w:World} {p:Int} {a:Option Addr} {n cap:Nat} {V:List Int} (h:Ints w a n cap V) :
 Calls Tryz.prog 150 #[pair p a n cap] w fun e w'=>LpcR w' e (bS p.toNat n) (eA p.toNat) (co p V) (aN p V&&decide (2<=p))/\Ext w w':=by
 obtain ⟨W,hW⟩:∃ W,W=(w.alloc (.cells #[.int .i64 p,.slice a n cap] 29)).alloc (.cells #[.slice none 0 0,.slice none 0 0,.slice none 0 0] 109):=⟨_,rfl⟩;have HWS:=ae (show W.heap.size=w.heap.size+2 by rw [hW];simp);have HX0:=ae (show Ext w W by rw [hW];exact (Ext.alloc _ _).trans (Ext.alloc _ _));have HWC:=ae (show W.cell? ⟨w.heap.size,1,none⟩=some (.slice a n cap) by rw [hW];simp);have HWD:=ae (show W.cell? ⟨w.heap.size,0,none⟩=some (.int .i64 p) by rw [hW];simp);have HWR:=ae (show W.heap[w.heap.size+1]?=some (.cells #[.slice none 0 0,.slice none 0 0,.slice none 0 0] 109 (0,0)) by rw [hW];exact aj _ _ _ (by simp));have HVL:=ae h.hlen;have hvcap:=h.hcap;have hvmax:=h.hmax;have HVE:=ae (h.ext HX0.out);have HC:=ae (dA (p:=p) (h.ext HX0.out));have hrbl:(w.heap.size+1)<W.heap.size:=by rw [HWS.out];omega
 have HRB:=ae (fun (w':World) (hx:Ext W w')=>(hx.block _ hrbl).trans HWR.out);clear h hrbl;cases hg:aN p V
 ·rw [hg,hW] at HC;clear hg;go_enter Tryz.func150,Tryz.ntmps150
  go_wp2_with fail;refine HC.out.mono ?_;rw [<-hW];rintro e w1 ⟨rfl,hx1⟩;have hr0:=LpO.boxc0 (HRB.out w1 hx1);have hr1:=LpO.boxc1 (HRB.out w1 hx1);have hr2:=LpO.boxc2 (HRB.out w1 hx1);have hrf:=LpO.boxf (HRB.out w1 hx1);have HX1:=ae hx1;clear hx1;go_wp2_with fail;refine bodyPost_ret (v:=.tuple #[.agg #[.slice none 0 0,.slice none 0 0,.slice none 0 0],.bool false]) (by simp [results,Tryz.results150,go_sem,hr0,hr1,hr2]) rfl ⟨⟨none,0,0,none,0,0,none,0,0,rfl,fun h=>Bool.noConfusion h⟩,(((HX0.out.trans HX1.out).store 0 (by omega) _).store 1 (by omega) _).store 2 (by omega) _⟩
 by_cases h2:p<2
 ·rw [hg,hW] at HC;have HBF:=ae (show (true&&decide (2<=p))=false by rw [Bool.true_and];exact decide_eq_false (by omega));clear hg;go_enter Tryz.func150,Tryz.ntmps150
  go_wp2_with fail;refine HC.out.mono ?_;rw [<-hW];rintro e w1 ⟨rfl,hx1⟩;have hr0:=LpO.boxc0 (HRB.out w1 hx1);have hr1:=LpO.boxc1 (HRB.out w1 hx1);have hr2:=LpO.boxc2 (HRB.out w1 hx1);have hrf:=LpO.boxf (HRB.out w1 hx1);have hp0:=hx1.cellSome HWD.out;have HX1:=ae hx1;clear hx1;go_wp2_with fail;refine bodyPost_ret (v:=.tuple #[.agg #[.slice none 0 0,.slice none 0 0,.slice none 0 0],.bool false]) (by simp [results,Tryz.results150,go_sem,hr0,hr1,hr2]) rfl ⟨⟨none,0,0,none,0,0,none,0,0,by rw [HBF.out],fun h=>by rw [HBF.out] at h;cases h⟩,(((HX0.out.trans HX1.out).store 0 (by omega) _).store 1 (by omega) _).store 2 (by omega) _⟩
 have HBT:=ae (show (true&&decide (2<=p))=true by rw [Bool.true_and];exact decide_eq_true (by omega));obtain ⟨q,rfl,h1,h5,hlen,_,hvb⟩:=bd hg;have hq:=cX q h5;have hq4:=jd ⟨q,by omega⟩ (show 2<=q by omega);have hn32:n<=32:=by rw [<-HVL.out,hlen];omega
 have hn4:4<=n:=by rw [<-HVL.out,hlen];exact hq4
 obtain ⟨m,hm⟩:∃ m:Nat,m+1=n:=⟨n-1,by omega⟩;have HMN:=ae hm;have hm3:3<=m:=by omega
 have hmn:m<n:=by omega
 have hm31:m<=31:=by omega
 have hnw:IntKind.i64.wrap ((n:Int)-1)=(m:Int):=by rw [IntKind.wrap_i64];omega
 have HVB:=ae hvb;have HCL:=ae (show (dH V).length=m by unfold dH;simp [HVL.out];omega);have HGV:=ae (fun (w':World) (hx:Ext W w')=>fH (p:=(q:Int)) (HVE.out.ext hx));obtain ⟨gv,hgv⟩:∃ v,v=bz (q:Int) V:=⟨_,rfl⟩;simp only [<-hgv] at HGV;have HLS:=ae (show (dH V).take (m-1)++[(gv,1)]=co (q:Int) V by rw [hgv];exact rq (by rw [HVL.out];exact hm));have hp2:¬ (q:Int)<2:=h2;rw [hg,hW] at HC;clear hg hlen hvb hq hgv hm hq4;go_enter Tryz.func150,Tryz.ntmps150
 go_wp2_with fail;refine HC.out.mono ?_;rw [<-hW];clear hW;rintro e w1 ⟨rfl,hx1⟩;have hs1:=hx1.size;rw [HWS.out] at hs1;have HX1:=ae hx1;have hp0:=hx1.cellSome HWD.out;have HL0:=ae (LpO.new (w:=w1) (base:=w.heap.size+2) hs1);obtain ⟨g,hgg⟩:∃ g,g=w1.heap.size:=⟨_,rfl⟩;obtain ⟨E,hE⟩:∃ E,E=w1.alloc (.cells #[.slice none 0 0,.slice none 0 0,.slice none 0 0] 109):=⟨_,rfl⟩;have HXE:=ae (show Ext W E by rw [hE];exact hx1.trans (Ext.alloc _ _));rw [<-hgg,<-hE] at HL0;have hse:w.heap.size+2<=E.heap.size:=by rw [<-HWS.out];exact HXE.out.size
 clear hx1 HC;go_upto_region 4 with fail;rw [<-hE,<-hgg];clear hE hgg hp0;have HLA0:=ae (OwnI.madeS E (w.heap.size+2) _ rfl hse);have HL1:=ae (HL0.out.ext (Ext.alloc E (.cells #[] 3)));have HX2:=ae (HXE.out.trans (Ext.alloc E (.cells #[] 3)));go_wp2_with fail
 go_loopg [5,6] (m-1) (fun gk ll ii wr=>∃ (k:Nat) (vc:Value) (al:Option Addr) (nl cl:Nat),Hid (gk+k=m-1)/\ii=.int .i64 ((k+1:Nat):Int)/\ll=.slice al nl cl/\Hid (OwnI wr (w.heap.size+2) (.slice al nl cl) (List.replicate k 1))/\Hid (LpO wr (w.heap.size+2) g (.slice none 0 0) (.slice none 0 0) vc [] [] [] ((dH V).take k))/\Hid (Ext W wr))
 case atStart=>exact ⟨0,_,_,_,_,ae (by omega),rfl,rfl,HLA0,HL1,HX2⟩
 case round =>
  obtain ⟨g1,h_g1⟩:∃ x,x=gk:=⟨_,rfl⟩;subst h_g1;obtain ⟨wr1,h_wr1⟩:∃ x,x=wr:=⟨_,rfl⟩;subst h_wr1;obtain ⟨k,vc,al,nl,cl,HK,rfl,rfl,HLA,HLP,HX⟩:=hrel;have hsz:=HX.out.size;rw [HWS.out] at hsz;have hcp:=HX.out.cellSome HWC.out;by_cases hlt:k+1<m
  ·have hltn:k+1<n:=by omega
   obtain ⟨eb,eoff,hea,he0⟩:=(HVE.out.ext HX.out).at hltn;subst hea;obtain ⟨v,hv⟩:∃ v,v=V[k+1]?.getD 0:=⟨_,rfl⟩;have hvb:-500<=v/\v<=500:=by
    rw [hv,List.getElem?_eq_getElem (by rw [HVL.out];exact hltn),Option.getD_some];exact HVB.out _ (List.getElem_mem _)
   rw [<-hv] at he0
   have HV0:=ae (show W.cell? ⟨eb,eoff+(k+1),none⟩=some (.int .i64 v) by
    obtain ⟨eb',eoff',hea',he'⟩:=HVE.out.at hltn;simp only [Option.some.injEq,Addr.mk.injEq,and_true] at hea';obtain ⟨rfl,rfl⟩:=hea'
    rw [hv];exact he')
   have HSN:=ae (qM HVL.out hltn hv.symm);have hwn:IntKind.i64.wrap (-v)=-v:=by rw [IntKind.wrap_i64];omega
   have hk0:(0:Int)<=((k+1:Nat):Int):=by omega
   have hk1:((k+1:Nat):Int)<(m:Int):=by omega
   have hk1n:((k+1:Nat):Int)<(n:Int):=by omega
   have hkw:IntKind.i64.wrap (((k+1:Nat):Int)+1)=((k+1+1:Nat):Int):=by rw [IntKind.wrap_i64];omega
   have hk2:(0:Int)<=(k:Int)+1:=by omega
   have hk3:(k:Int)+1<(m:Int):=by omega
   have hk3n:(k:Int)+1<(n:Int):=by omega
   have hk4:((k:Int)+1).toNat=k+1:=by omega
   have HTL:=ae (show ((dH V).take k).length=k by rw [List.length_take,HCL.out];omega);have t2:=HLP.out.c2;clear hv;have HKEEP:=ae (fun (w':World) (h:Ext wr1 w')=>(⟨h.cellSome t2,h.cellSome hcp,h.cellSome he0,HX.out.trans h⟩:w'.cell? ⟨g,2,none⟩=some vc/\w'.cell? ⟨w.heap.size,1,none⟩=some (.slice (some ⟨eb,eoff,none⟩) n cap)/\w'.cell? ⟨eb,eoff+(k+1),none⟩=some (.int .i64 v)/\Ext W w'));have hkd:Ext wr1 wr1.drew:=Ext.drew wr1;go_upto_region 8 with fail;refine cz (M:=[12]) (S:=fun w'=>w'.cell? ⟨g,2,none⟩=some vc/\w'.cell? ⟨w.heap.size,1,none⟩=some (.slice (some ⟨eb,eoff,none⟩) n cap)/\w'.cell? ⟨eb,eoff+(k+1),none⟩=some (.int .i64 v)/\Ext W w') (by kernel_rfl) ?_;have hHeld:=HKEEP.out _ hkd;obtain ⟨wd,hwd⟩:∃ y,y=wr1.drew:=⟨_,rfl⟩;rw [<-hwd] at hkd hHeld;rw [<-hwd];clear hwd;have hsd:=hkd.size;refine lp 0 ?_;refine ll 1 ?_;refine lp 2 ?_;refine ll 3 ?_;refine lp 4 ?_;refine lp 5 ?_;refine ll 6 ?_;refine lp 7 ?_;refine aJ (i:=8) (oi:=?_) ?_ ?_ ?_ (fun K hK=>?_);rotate_left
   ·simp only [gA,gB,gC];rfl
   ·kernel_rfl
   ·kernel_rfl
   go_simp;go_at_call 86;refine (bJ _ _).mono ?_;rintro e w3 ⟨rfl,hx3⟩;have hkd:Ext wr1 w3:=hkd.trans hx3;have hs3:=hkd.size;go_wp2_with fail;refine hK.out _ _ (fun _=>HKEEP.out _ hkd) ?_;have hHeld:=HKEEP.out _ hkd;clear hK K
   try simp only [Act.put,sA,sB,sC]
   refine aJ (i:=9) (oi:=?_) ?_ ?_ ?_ (fun K hK=>?_);rotate_left
   ·simp only [gA,gB,gC];rfl
   ·kernel_rfl
   ·kernel_rfl
   go_simp;refine hK.out _ _ (fun _=>HKEEP.out _ (hkd.trans (Ext.alloc _ _))) ?_;clear hK K
   try simp only [Act.put,sA,sB,sC]
   refine aJ (i:=10) (oi:=?_) ?_ ?_ ?_ (fun K hK=>?_);rotate_left
   ·simp only [gA,gB,gC];rfl
   ·kernel_rfl
   ·kernel_rfl
   refine cH _ _ (by rfl) (w.heap.size+2) vc _ (by rfl) ((HLP.out.c.ext hkd).ext (Ext.alloc _ _)) _ 1 _ [(-v,1)] (by rfl) (Rats.one' _ _ _ _ _ rfl) (by rw [HTL.out];omega) (by simp;omega) ?_;intro v6 w6 ho hg6 hnear;obtain ⟨a6,n6,q6,rfl,HN6⟩:=ho.var;have HP6:=ae (HLP.out.pushC (hkd.trans (Ext.alloc _ _)) hg6 ho);have hb6:=HLP.out.boxC (hkd.trans (Ext.alloc _ _)) hg6;have c26:=LpO.boxc2 hb6;have cf6:=LpO.boxf hb6;have HLA6:=ae (show OwnI (w6.setCell ⟨g,2,none⟩ (.slice a6 n6 q6)) (w.heap.size+2) (.slice al nl cl) (List.replicate k 1) from ci (HLA.out.keptR (hkd.trans (Ext.alloc _ _)) HLP.out.c hg6) hb6 (by decide));have hX6:Ext W w6:=ak ((HX.out.trans hkd).trans (Ext.alloc _ _)) hg6 (fun j hj=>by rw [HWS.out];exact (HLP.out.c.lt j hj).1);clear ho hg6 hnear hb6;refine hK.out _ _ (fun _=>(⟨c26,hX6.cellSome HWC.out,hX6.cellSome HV0.out,hX6⟩:w6.cell? ⟨g,2,none⟩=some vc/\w6.cell? ⟨w.heap.size,1,none⟩=some (.slice (some ⟨eb,eoff,none⟩) n cap)/\w6.cell? ⟨eb,eoff+(k+1),none⟩=some (.int .i64 v)/\Ext W w6)) ?_;have hHeld:=(⟨c26,hX6.cellSome HWC.out,hX6.cellSome HV0.out,hX6⟩:w6.cell? ⟨g,2,none⟩=some vc/\w6.cell? ⟨w.heap.size,1,none⟩=some (.slice (some ⟨eb,eoff,none⟩) n cap)/\w6.cell? ⟨eb,eoff+(k+1),none⟩=some (.int .i64 v)/\Ext W w6);clear hK K
   try simp only [Act.put,sA,sB,sC]
   refine lp 11 ?_;refine cV (i:=12) (oi:=?_) (w':=?_) ?_ ?_ ?_ ?_ ?_ ?_ ?_;rotate_left 2
   ·simp only [gA,gB,gC];rfl
   ·kernel_rfl
   ·kernel_rfl
   ·exact of_decide_eq_true (by kernel_rfl)
   ·rfl
   ·go_simp;(try with_reducible rfl)
   try simp only [Act.put,sA,sB,sC]
   refine cW (by kernel_rfl) ?_ _;have HX9:=ae (hX6.setCell (p:=⟨g,2,none⟩) (by rw [HWS.out];exact HLP.out.hg) (.slice a6 n6 q6));obtain ⟨W9,hW9⟩:∃ y,y=w6.setCell ⟨g,2,none⟩ (.slice a6 n6 q6):=⟨_,rfl⟩;rw [<-hW9] at HP6 HX9 HLA6;go_upto_region 9 with fail;rw [<-hW9];clear hW9 c26 cf6 hHeld hkd hX6 t2;have hs9:=HX9.out.size;rw [HWS.out] at hs9;have HP9:=ae (show LpO W9 (w.heap.size+2) g (.slice none 0 0) (.slice none 0 0) (.slice a6 n6 q6) [] [] [] ((dH V).take (k+1)) by rw [<-HSN.out];exact HP6.out)
   go_wp2_with (first
    | (at_builtin;refine bm rfl _ _ rfl (w.heap.size+2) (.slice al nl cl) _ rfl (HLA6.out.ext (Ext.alloc _ _)) _ 1 _ [1] rfl (Ints.oneS _ _ _ _ (by simp)) (by simp;omega) (by simp;omega) ?_;intro v10 w10 ho hg10 hnear;have HPA:=ae ((HP9.out.ext (Ext.alloc _ _)).aside (HLA6.out.ext (Ext.alloc _ _)) hg10);have XA:=ae (ak (Ext.trans HX9.out (Ext.alloc _ _)) hg10 (fun j hj=>by rw [HWS.out];exact (HLA6.out.lt j hj).1));obtain ⟨a10,n10,c10,rfl,HN10⟩:=ho.var;have HOA:=ae (show OwnI w10 (w.heap.size+2) (.slice a10 n10 c10) (List.replicate (k+1) 1) by rw [List.replicate_succ'];exact ho);clear ho hg10 hnear))
   go_roundg (g1-1)
   case measure=>have:=HK.out;omega
   case rel=>exact ⟨k+1,_,_,_,_,ae (by have:=HK.out;omega),by go_num,rfl,HOA,HPA,XA⟩
  ·have hkm:k=m-1:=by have:=HK.out;omega
   rw [hkm] at HLA HLP;have hcp0:=HX.out.cellSome HWD.out;have t2:=HLP.out.c2;have HTL:=ae (show ((dH V).take (m-1)).length=m-1 by rw [List.length_take,HCL.out];omega);have hlt2:¬ ((k:Int)+1)<(m:Int):=by omega
   have HKEEP:=ae (fun (w':World) (h:Ext wr1 w')=>(⟨h.cellSome t2,h.cellSome hcp0,h.cellSome hcp,HX.out.trans h⟩:w'.cell? ⟨g,2,none⟩=some vc/\w'.cell? ⟨w.heap.size,0,none⟩=some (.int .i64 (q:Int))/\w'.cell? ⟨w.heap.size,1,none⟩=some (.slice a n cap)/\Ext W w'));have hkd:Ext wr1 wr1.drew:=Ext.drew wr1;clear hkm;go_upto_region 10 with fail;refine cz (M:=[8]) (S:=fun w'=>w'.cell? ⟨g,2,none⟩=some vc/\w'.cell? ⟨w.heap.size,0,none⟩=some (.int .i64 (q:Int))/\w'.cell? ⟨w.heap.size,1,none⟩=some (.slice a n cap)/\Ext W w') (by kernel_rfl) ?_;have hHeld:=HKEEP.out _ hkd;obtain ⟨wd,hwd⟩:∃ y,y=wr1.drew:=⟨_,rfl⟩;rw [<-hwd] at hkd hHeld;rw [<-hwd];clear hwd;have hsd:=hkd.size;refine lp 0 ?_;refine ll 1 ?_;refine ll 2 ?_;refine aJ (i:=3) (oi:=?_) ?_ ?_ ?_ (fun K hK=>?_);rotate_left
   ·simp only [gA,gB,gC];rfl
   ·kernel_rfl
   ·kernel_rfl
   go_simp;go_at_call 87;refine (HGV.out _ (HX.out.trans hkd)).mono ?_;rintro e w3 ⟨rfl,hx3⟩;have hkd:Ext wr1 w3:=hkd.trans hx3;have hs3:=hkd.size;go_wp2_with fail;refine hK.out _ _ (fun _=>HKEEP.out _ hkd) ?_;have hHeld:=HKEEP.out _ hkd;clear hK K
   try simp only [Act.put,sA,sB,sC]
   refine aJ (i:=4) (oi:=?_) ?_ ?_ ?_ (fun K hK=>?_);rotate_left
   ·simp only [gA,gB,gC];rfl
   ·kernel_rfl
   ·kernel_rfl
   go_simp;go_at_call 86;refine (bJ _ _).mono ?_;rintro e w4 ⟨rfl,hx4⟩;have hkd:Ext wr1 w4:=hkd.trans hx4;have hs4:=hkd.size;go_wp2_with fail;refine hK.out _ _ (fun _=>HKEEP.out _ hkd) ?_;have hHeld:=HKEEP.out _ hkd;clear hK K
   try simp only [Act.put,sA,sB,sC]
   refine aJ (i:=5) (oi:=?_) ?_ ?_ ?_ (fun K hK=>?_);rotate_left
   ·simp only [gA,gB,gC];rfl
   ·kernel_rfl
   ·kernel_rfl
   go_simp;refine hK.out _ _ (fun _=>HKEEP.out _ (hkd.trans (Ext.alloc _ _))) ?_;clear hK K
   try simp only [Act.put,sA,sB,sC]
   refine aJ (i:=6) (oi:=?_) ?_ ?_ ?_ (fun K hK=>?_);rotate_left
   ·simp only [gA,gB,gC];rfl
   ·kernel_rfl
   ·kernel_rfl
   refine cH _ _ (by rfl) (w.heap.size+2) vc _ (by rfl) ((HLP.out.c.ext hkd).ext (Ext.alloc _ _)) _ 1 _ [(gv,1)] (by rfl) (Rats.one' _ _ _ _ _ rfl) (by rw [HTL.out];omega) (by simp;omega) ?_;intro v6 w6 ho hg6 hnear;obtain ⟨a6,n6,q6,rfl,HN6⟩:=ho.var;have HP6:=ae (HLP.out.pushC (hkd.trans (Ext.alloc _ _)) hg6 ho);have hb6:=HLP.out.boxC (hkd.trans (Ext.alloc _ _)) hg6;have c26:=LpO.boxc2 hb6;have cf6:=LpO.boxf hb6;have HLA6:=ae (show OwnI (w6.setCell ⟨g,2,none⟩ (.slice a6 n6 q6)) (w.heap.size+2) (.slice al nl cl) (List.replicate (m-1) 1) from ci (HLA.out.keptR (hkd.trans (Ext.alloc _ _)) HLP.out.c hg6) hb6 (by decide));have hX6:Ext W w6:=ak ((HX.out.trans hkd).trans (Ext.alloc _ _)) hg6 (fun j hj=>by rw [HWS.out];exact (HLP.out.c.lt j hj).1);clear ho hg6 hnear hb6;refine hK.out _ _ (fun _=>(⟨c26,hX6.cellSome HWD.out,hX6.cellSome HWC.out,hX6⟩:w6.cell? ⟨g,2,none⟩=some vc/\w6.cell? ⟨w.heap.size,0,none⟩=some (.int .i64 (q:Int))/\w6.cell? ⟨w.heap.size,1,none⟩=some (.slice a n cap)/\Ext W w6)) ?_;have hHeld:=(⟨c26,hX6.cellSome HWD.out,hX6.cellSome HWC.out,hX6⟩:w6.cell? ⟨g,2,none⟩=some vc/\w6.cell? ⟨w.heap.size,0,none⟩=some (.int .i64 (q:Int))/\w6.cell? ⟨w.heap.size,1,none⟩=some (.slice a n cap)/\Ext W w6);clear hK K
   try simp only [Act.put,sA,sB,sC]
   refine lp 7 ?_;refine cV (i:=8) (oi:=?_) (w':=?_) ?_ ?_ ?_ ?_ ?_ ?_ ?_;rotate_left 2
   ·simp only [gA,gB,gC];rfl
   ·kernel_rfl
   ·kernel_rfl
   ·exact of_decide_eq_true (by kernel_rfl)
   ·rfl
   ·go_simp;(try with_reducible rfl)
   try simp only [Act.put,sA,sB,sC]
   refine cW (by kernel_rfl) ?_ _;have HX9:=ae (hX6.setCell (p:=⟨g,2,none⟩) (by rw [HWS.out];exact HLP.out.hg) (.slice a6 n6 q6));obtain ⟨W9,hW9⟩:∃ y,y=w6.setCell ⟨g,2,none⟩ (.slice a6 n6 q6):=⟨_,rfl⟩;rw [<-hW9] at HP6 HX9 HLA6;rw [HLS.out] at HP6;go_upto_region 11 with fail;rw [<-hW9];clear hW9 c26 cf6 hHeld hkd hX6 t2 hcp hcp0 hsz;obtain ⟨L,hL⟩:∃ L,L=seqI 1 (m-1):=⟨_,rfl⟩;have HLL:=ae (show L.length=m-1 by rw [hL];simp [seqI])
   have HLAT:=ae (fun (j:Nat) (hj:j<m-1)=>show L[j]?.getD 0=(j:Int)+1 by
    rw [hL,List.getElem?_eq_getElem (by simp [seqI];exact hj)]
    simp [seqI];omega)
   have HLE:=ae (fun k=>show memR L k++[-1]=dR n k by rw [hL];exact pQ HMN.out);clear hL;go_wp2_with fail
   go_loopg [7] q (fun gk ii wr=>∃ (k:Nat) (va vb:Value) (vs:List Value),Hid (gk+k=q)/\ii=.int .i64 (k:Int)/\Hid (LpO wr (w.heap.size+2) g va vb (.slice a6 n6 q6) vs ((List.range k).map (dR n)) (List.replicate k 0) (co (q:Int) V))/\Hid (OwnI wr (w.heap.size+2) (.slice al nl cl) (List.replicate (m-1) 1))/\Hid (∀ j,(Value.slice al nl cl).ownBlock=some j->vb.ownBlock ≠ some j)/\Hid (OffV vs (.slice al nl cl))/\Hid (Ext W wr))
   case atStart=>exact ⟨0,_,_,[],ae (by omega),rfl,HP6,HLA6,ae (fun j _ h=>by cases h),ae (OffV.nil _),HX9⟩
   case round =>
    obtain ⟨g2,h_g2⟩:∃ x,x=gk:=⟨_,rfl⟩;subst h_g2;obtain ⟨wr2,h_wr2⟩:∃ x,x=wr:=⟨_,rfl⟩;subst h_wr2;obtain ⟨k,va,vb,vs,HK2,rfl,HLP2,HLA2,HOF,HOV,HX2⟩:=hrel;have hsz2:=HX2.out.size;rw [HWS.out] at hsz2;have hp0:=HX2.out.cellSome HWD.out;have hp1:=HX2.out.cellSome HWC.out;by_cases hkq:k<q
    ·have HR0:=ae (OwnI.madeS wr2 wr2.heap.size _ rfl (Nat.le_refl _));have hkqi:(k:Int)<(q:Int):=by omega
     go_wp2_with fail
     go_loopg [8,9] (m-1) (fun gk row ii wr=>∃ (j:Nat) (a2:Option Addr) (n2 p2:Nat),Hid (gk+j=m-1)/\ii=.int .i64 ((j+1:Nat):Int)/\row=.slice a2 n2 p2/\Hid (OwnI wr wr2.heap.size (.slice a2 n2 p2) (memR (L.take j) k))/\Hid (Ext wr2 wr))
     case atStart=>exact ⟨0,_,_,_,ae (by omega),rfl,rfl,HR0,ae (Ext.alloc _ _)⟩
     case round =>
      obtain ⟨g3,h_g3⟩:∃ x,x=gk:=⟨_,rfl⟩;subst h_g3;obtain ⟨wr3,h_wr3⟩:∃ x,x=wr:=⟨_,rfl⟩;subst h_wr3;obtain ⟨j,a2,n2,p2,HJ,rfl,rfl,HO,HX3⟩:=hrel;have hsz3:=HX3.out.size;have hp2:=HX3.out.cellSome hp1;by_cases hjl:j+1<m
      ·have hjw:IntKind.i64.wrap (((j+1:Nat):Int)+1)=((j+1+1:Nat):Int):=by rw [IntKind.wrap_i64];omega
       have hjl2:(j:Int)+1<(m:Int):=by omega
       have hjl3:((j+1:Nat):Int)<(m:Int):=by omega
       obtain ⟨hb,hhb⟩:∃ b,b=hasP ((j:Int)+1) (k:Int):=⟨_,rfl⟩;have HHP:=ae (fun w'=>dN ((j:Int)+1) (k:Int) w' (by omega));simp only [<-hhb] at HHP;have HBTT:=ae (fun w'=>fw hb w');have HSN:=ae (jt (l:=L) (j:=j) (k:=k) (b:=hb) (by rw [HLL.out];omega) (by rw [HLAT.out j (by omega)];exact hhb.symm));have HRL:=ae (show (memR (L.take j) k).length=j by simp only [memR,List.length_map,List.length_take];rw [HLL.out];omega);obtain ⟨bt,hbt⟩:∃ y,y=bitI hb:=⟨_,rfl⟩;rw [<-hbt] at HSN;simp only [<-hbt] at HBTT;clear hhb hbt
       go_wp2_with (first
        | (go_at_call 79;refine (HHP.out _).mono ?_;rintro e w4 ⟨rfl,rfl⟩)
        | (go_at_call 74;refine (HBTT.out _).mono ?_;rintro e w4 ⟨rfl,rfl⟩)
        | (at_builtin;refine bm rfl _ _ rfl wr2.heap.size (.slice a2 n2 p2) _ rfl (HO.out.ext (Ext.alloc _ _)) _ 1 _ [bt] rfl (Ints.oneS _ _ _ _ (by simp)) (by rw [HRL.out];omega) (by simp;omega) ?_;intro v5 w5 ho hg5 hnear;have X5:=ae (ak (HX3.out.trans (Ext.alloc _ _)) hg5 (fun i hi=>(HO.out.lt i hi).1));obtain ⟨a5,n5,c5,rfl,HN5⟩:=ho.var;have HO5:=ae ho;clear ho hg5 hnear))
       go_roundg (g3-1)
       case measure=>have:=HJ.out;omega
       case rel=>exact ⟨j+1,a5,n5,c5,ae (by have:=HJ.out;omega),by go_num,rfl,ae (by rw [<-HSN.out];exact HO5.out),X5⟩
      ·have hjl2:¬ ((j:Int)+1)<(m:Int):=by omega
       have hjl3:¬ ((j+1:Nat):Int)<(m:Int):=by omega
       have hTL:L.take j=L:=List.take_of_length_le (by rw [HLL.out];omega);rw [hTL] at HO;have HML:=ae (show (memR L k).length=m-1 by simp only [memR,List.length_map];rw [HLL.out]);have HVSL:=ae (show vs.length=k by rw [HLP2.out.rows.len];simp);have t0:=HLP2.out.c0;have HKP:=ae (fun (w':World) (h:Ext wr2 w')=>(⟨h.cellSome t0,HX2.out.trans h⟩:w'.cell? ⟨g,0,none⟩=some va/\Ext W w'));have hkd:Ext wr2 wr3.drew:=HX3.out.trans (Ext.drew wr3);clear hTL;go_upto_region 19 with fail;refine cz (M:=[8]) (S:=fun w'=>w'.cell? ⟨g,0,none⟩=some va/\Ext W w') (by kernel_rfl) ?_;have hHeld:=HKP.out _ hkd;have HOd:=ae (HO.out.ext (Ext.drew wr3));obtain ⟨wd,hwd⟩:∃ y,y=wr3.drew:=⟨_,rfl⟩;rw [<-hwd] at hkd HOd hHeld;rw [<-hwd];clear hwd;have hsd:=hkd.size;refine lp 0 ?_;refine ll 1 ?_;refine lp 2 ?_;refine aJ (i:=3) (oi:=?_) ?_ ?_ ?_ (fun K hK=>?_);rotate_left
       ·simp only [gA,gB,gC];rfl
       ·kernel_rfl
       ·kernel_rfl
       go_simp;refine hK.out _ _ (fun _=>HKP.out _ (hkd.trans (Ext.alloc _ _))) ?_;clear hK K
       try simp only [Act.put,sA,sB,sC]
       refine aJ (i:=4) (oi:=?_) ?_ ?_ ?_ (fun K hK=>?_);rotate_left
       ·simp only [gA,gB,gC];rfl
       ·kernel_rfl
       ·kernel_rfl
       refine bX _ _ (by rfl) wr2.heap.size (.slice a2 n2 p2) _ (by rfl) (HOd.out.ext (Ext.alloc _ _)) _ 1 _ [-1] (by rfl) (Ints.oneS _ _ _ _ rfl) (by rw [HML.out];omega) (by simp;omega) ?_;intro v6 w6 ho hg6 hnear;obtain ⟨a7,n7,q7,rfl,HN7⟩:=ho.var;have HO6:=ae ho;have hk6:Ext wr2 w6:=ak (hkd.trans (Ext.alloc _ _)) hg6 (fun j hj=>(HO.out.lt j hj).1);have hs6:=hk6.size;clear ho hg6 hnear;refine hK.out _ _ (fun _=>HKP.out _ hk6) ?_;have hHeld:=HKP.out _ hk6;clear hK K
       try simp only [Act.put,sA,sB,sC]
       refine aJ (i:=5) (oi:=?_) ?_ ?_ ?_ (fun K hK=>?_);rotate_left
       ·simp only [gA,gB,gC];rfl
       ·kernel_rfl
       ·kernel_rfl
       go_simp;refine hK.out _ _ (fun _=>HKP.out _ (hk6.trans (Ext.alloc _ _))) ?_;clear hK K
       try simp only [Act.put,sA,sB,sC]
       refine aJ (i:=6) (oi:=?_) ?_ ?_ ?_ (fun K hK=>?_);rotate_left
       ·simp only [gA,gB,gC];rfl
       ·kernel_rfl
       ·kernel_rfl
       refine dz _ _ (by rfl) (w.heap.size+2) va vs (by rfl) ((HLP2.out.a.ext hk6).ext (Ext.alloc _ _)) _ _ 1 (by rfl) (by simp;rfl) rfl (by rw [HVSL.out];omega) (by simp;omega) ?_;intro v7 w7 ho hg7 hnear;obtain ⟨a8,n8,q8,rfl,HN8⟩:=ho.var;have HO7:=ae ho;have HG7:=ae hg7;have HR7:=ae hnear;have hbx:=HLP2.out.boxA (hk6.trans (Ext.alloc _ _)) hg7;have c07:=LpO.boxc0 hbx;have cf7:=LpO.boxf hbx;have HLA7:=ae (show OwnI (w7.setCell ⟨g,0,none⟩ (.slice a8 n8 q8)) (w.heap.size+2) (.slice al nl cl) (List.replicate (m-1) 1) from ci (HLA2.out.keptV (hk6.trans (Ext.alloc _ _)) HLP2.out.a hg7) hbx (by decide));have hX7:Ext W w7:=ak ((HX2.out.trans hk6).trans (Ext.alloc _ _)) hg7 (fun j hj=>by rw [HWS.out];exact (HLP2.out.a.lt j hj).1);clear ho hg7 hnear hbx;refine hK.out _ _ (fun _=>And.intro c07 hX7) ?_;have hHeld:=And.intro c07 hX7;clear hK K
       try simp only [Act.put,sA,sB,sC]
       refine lp 7 ?_;refine cV (i:=8) (oi:=?_) (w':=?_) ?_ ?_ ?_ ?_ ?_ ?_ ?_;rotate_left 2
       ·simp only [gA,gB,gC];rfl
       ·kernel_rfl
       ·kernel_rfl
       ·exact of_decide_eq_true (by kernel_rfl)
       ·rfl
       ·go_simp;(try with_reducible rfl)
       try simp only [Act.put,sA,sB,sC]
       refine cW (by kernel_rfl) ?_ _;have HL8:=ae (HLP2.out.pushA (hk6.trans (Ext.alloc _ _)) (HO6.out.ext (Ext.alloc _ _)) hsz2 HG7.out HO7.out HR7.out);have HOV8:=ae (HOV.out.snoc HLA2.out HO6.out);rw [HLE.out,show (List.range k).map (dR n)++[dR n k]=(List.range (k+1)).map (dR n) by rw [List.range_succ,List.map_append];rfl] at HL8;have HX8:=ae (hX7.setCell (p:=⟨g,0,none⟩) (by rw [HWS.out];exact HLP2.out.hg) (.slice a8 n8 q8));obtain ⟨W8,hW8⟩:∃ y,y=w7.setCell ⟨g,0,none⟩ (.slice a8 n8 q8):=⟨_,rfl⟩;rw [<-hW8] at HL8 HX8 HLA7;go_upto_region 20 with fail;rw [<-hW8];clear hW8 c07 cf7 hHeld hkd hk6;have b1:=HL8.out.c1;have bf:=HL8.out.free;have hl8:=HL8.out.lt;have hs8:w.heap.size+2<=W8.heap.size:=by rw [<-HWS.out];exact Below.size HX8.out
       go_wp2_with (first
        | (at_builtin;refine bm rfl _ _ rfl (w.heap.size+2) vb _ rfl (HL8.out.b.ext (Ext.alloc _ _)) _ 1 _ [0] rfl (Ints.oneS _ _ _ _ (by simp)) (by simp;omega) (by simp;omega) ?_;intro v9 w9 ho hg9 hnear;have HL9:=ae (HL8.out.pushB (Ext.alloc _ _) hg9 ho hnear);have hbx:=HL8.out.boxB (Ext.alloc _ _) hg9;have c09:=LpO.boxc1 hbx;have cf9:=LpO.boxf hbx;have HLA9:=ae (show OwnI (w9.setCell ⟨g,1,none⟩ v9) (w.heap.size+2) (.slice al nl cl) (List.replicate (m-1) 1) from ci (show OwnI w9 (w.heap.size+2) (.slice al nl cl) (List.replicate (m-1) 1) from (HLA7.out.ext (Ext.alloc _ _)).keep (fun j hj=>hg9.block j (Nat.lt_of_lt_of_le (HLA7.out.lt j hj).2 (by simp)) (fun e=>HOF.out j hj e.symm))) hbx (by decide));have HOF9:=ae (show ∀ j,(Value.slice al nl cl).ownBlock=some j->v9.ownBlock ≠ some j from fun j hj e=>by rcases hnear j e with h3|h3;exact HOF.out j hj h3;have:=(HLA7.out.lt j hj).2;simp at h3;omega);have hX9:Ext W w9:=ak (Ext.trans HX8.out (Ext.alloc _ _)) hg9 (fun j hj=>by rw [HWS.out];exact (HL8.out.b.lt j hj).1);obtain ⟨a9,n9,q9,rfl,HN9⟩:=ho.var;clear ho hg9 hnear hbx))
       have HXN:=ae (hX9.setCell (p:=⟨g,1,none⟩) (by rw [HWS.out];exact HLP2.out.hg) (.slice a9 n9 q9))
       go_roundg (g2-1)
       case measure=>have:=HK2.out;omega
       case rel=>exact ⟨k+1,_,_,_,ae (by have:=HK2.out;omega),by go_num,ae (by have h1:=HL9.out;rw [<-List.replicate_succ'] at h1;exact h1),HLA9,HOF9,HOV8,HXN⟩
    ·have hkq2:q=k:=by have:=HK2.out;omega
     have hnk:¬ (k:Int)<(q:Int):=by omega
     have HVSL:=ae (show vs.length=q by rw [HLP2.out.rows.len];simp;omega);rw [<-hkq2] at HLP2;have t0:=HLP2.out.c0;have HKP:=ae (fun (w':World) (h:Ext wr2 w')=>(⟨h.cellSome t0,HX2.out.trans h⟩:w'.cell? ⟨g,0,none⟩=some va/\Ext W w'));have hkd:Ext wr2 wr2.drew:=Ext.drew wr2;clear hkq2;go_upto_region 21 with fail;refine cz (M:=[8]) (S:=fun w'=>w'.cell? ⟨g,0,none⟩=some va/\Ext W w') (by kernel_rfl) ?_;have hHeld:=HKP.out _ hkd;obtain ⟨wd,hwd⟩:∃ y,y=wr2.drew:=⟨_,rfl⟩;rw [<-hwd] at hkd hHeld;rw [<-hwd];clear hwd;have hsd:=hkd.size;refine lp 0 ?_;refine ll 1 ?_;refine lp 2 ?_;refine aJ (i:=3) (oi:=?_) ?_ ?_ ?_ (fun K hK=>?_);rotate_left
     ·simp only [gA,gB,gC];rfl
     ·kernel_rfl
     ·kernel_rfl
     go_simp;refine hK.out _ _ (fun _=>HKP.out _ (hkd.trans (Ext.alloc _ _))) ?_;clear hK K
     try simp only [Act.put,sA,sB,sC]
     refine aJ (i:=4) (oi:=?_) ?_ ?_ ?_ (fun K hK=>?_);rotate_left
     ·simp only [gA,gB,gC];rfl
     ·kernel_rfl
     ·kernel_rfl
     refine bX _ _ (by rfl) (w.heap.size+2) (.slice al nl cl) _ (by rfl) (HLA2.out.ext (hkd.trans (Ext.alloc _ _))) _ 1 _ [0] (by rfl) (Ints.oneS _ _ _ _ rfl) (by simp;omega) (by simp;omega) ?_;intro v6 w6 ho hg6 hnear;have HLP6:=ae ((HLP2.out.ext (hkd.trans (Ext.alloc _ _))).growRow (HLA2.out.ext (hkd.trans (Ext.alloc _ _))) hg6 HOV.out HOF.out);have HOV6:=ae (HOV.out.near (HLP2.out.ext (hkd.trans (Ext.alloc _ _))).rows hnear);have HOF6:=ae (offB HOF.out (HLP2.out.ext (hkd.trans (Ext.alloc _ _))).b hnear);obtain ⟨a7,n7,q7,rfl,HN7⟩:=ho.var;have HO6:=ae ho;have hX6:Ext W w6:=ak ((HX2.out.trans hkd).trans (Ext.alloc _ _)) hg6 (fun j hj=>by rw [HWS.out];exact (HLA2.out.lt j hj).1);have hs6:=hX6.size;clear ho hg6 hnear;refine hK.out _ _ (fun _=>And.intro HLP6.out.c0 hX6) ?_;have hHeld:=And.intro HLP6.out.c0 hX6;clear hK K
     try simp only [Act.put,sA,sB,sC]
     refine aJ (i:=5) (oi:=?_) ?_ ?_ ?_ (fun K hK=>?_);rotate_left
     ·simp only [gA,gB,gC];rfl
     ·kernel_rfl
     ·kernel_rfl
     go_simp;refine hK.out _ _ (fun _=>And.intro (HLP6.out.ext (Ext.alloc _ _)).c0 (hX6.trans (Ext.alloc _ _))) ?_;clear hK K
     try simp only [Act.put,sA,sB,sC]
     refine aJ (i:=6) (oi:=?_) ?_ ?_ ?_ (fun K hK=>?_);rotate_left
     ·simp only [gA,gB,gC];rfl
     ·kernel_rfl
     ·kernel_rfl
     refine dz _ _ (by rfl) (w.heap.size+2) va vs (by rfl) (HLP6.out.a.ext (Ext.alloc _ _)) _ _ 1 (by rfl) (by simp;rfl) rfl (by rw [HVSL.out];omega) (by simp;rw [HWS.out] at hs6;omega) ?_;intro v7 w7 ho hg7 hnear;have HL8:=ae ((HLP6.out.ext (Ext.alloc _ _)).pushA2 (HO6.out.ext (Ext.alloc _ _)) HOV6.out HOF6.out hg7 ho);obtain ⟨a8,n8,q8,rfl,HN8⟩:=ho.var;have hbx:=HLP6.out.boxA (Ext.alloc _ _) hg7;have c07:=LpO.boxc0 hbx;have cf7:=LpO.boxf hbx;have hX7:Ext W w7:=ak (hX6.trans (Ext.alloc _ _)) hg7 (fun j hj=>by rw [HWS.out];exact (HLP6.out.a.lt j hj).1);clear ho hg7 hnear hbx;refine hK.out _ _ (fun _=>And.intro c07 hX7) ?_;have hHeld:=And.intro c07 hX7;clear hK K
     try simp only [Act.put,sA,sB,sC]
     refine lp 7 ?_;refine cV (i:=8) (oi:=?_) (w':=?_) ?_ ?_ ?_ ?_ ?_ ?_ ?_;rotate_left 2
     ·simp only [gA,gB,gC];rfl
     ·kernel_rfl
     ·kernel_rfl
     ·exact of_decide_eq_true (by kernel_rfl)
     ·rfl
     ·go_simp;(try with_reducible rfl)
     try simp only [Act.put,sA,sB,sC]
     refine cW (by kernel_rfl) ?_ _;have HX8:=ae (hX7.setCell (p:=⟨g,0,none⟩) (by rw [HWS.out];exact HLP2.out.hg) (.slice a8 n8 q8));obtain ⟨W8,hW8⟩:∃ y,y=w7.setCell ⟨g,0,none⟩ (.slice a8 n8 q8):=⟨_,rfl⟩;rw [<-hW8] at HL8 HX8;go_upto_region 22 with fail;rw [<-hW8];clear hW8 c07 cf7 hHeld hkd hX6 hX7;have b1:=HL8.out.c1;have bf:=HL8.out.free;have hl8:=HL8.out.lt;have hs8:w.heap.size+2<=W8.heap.size:=by rw [<-HWS.out];exact Below.size HX8.out
     have HA8:=ae (show (List.range q).map (dR n)++[List.replicate (m-1) 1++[0]]=bS q n by unfold bS;rw [<-HMN.out,show m+1-2=m-1 by omega])
     go_upto_region 23 with (first
      | (at_builtin;refine bm rfl _ _ rfl (w.heap.size+2) vb _ rfl (HL8.out.b.ext (Ext.alloc _ _)) _ 1 _ [1] rfl (Ints.oneS _ _ _ _ (by simp)) (by simp;omega) (by simp;omega) ?_;intro v9 w9 ho hg9 hnear;have HL9:=ae (HL8.out.pushB (Ext.alloc _ _) hg9 ho hnear);have hbx:=HL8.out.boxB (Ext.alloc _ _) hg9;have c09:=LpO.boxc1 hbx;have cf9:=LpO.boxf hbx;have hX9:Ext W w9:=ak (Ext.trans HX8.out (Ext.alloc _ _)) hg9 (fun j hj=>by rw [HWS.out];exact (HL8.out.b.lt j hj).1);obtain ⟨a9,n9,q9,rfl,HN9⟩:=ho.var;clear ho hg9 hnear hbx))
     have HXN:=ae (hX9.setCell (p:=⟨g,1,none⟩) (by rw [HWS.out];exact HLP2.out.hg) (.slice a9 n9 q9));obtain ⟨W9,hW9⟩:∃ y,y=w9.setCell ⟨g,1,none⟩ (.slice a9 n9 q9):=⟨_,rfl⟩;rw [<-hW9] at HL9 HXN;rw [<-hW9];rw [HA8.out] at HL9;clear hW9 c09 cf9 hX9 b1 bf t0;have t0:=HL9.out.c0;have t1:=HL9.out.c1;have t2:=HL9.out.c2;have hrA:=HRB.out W9 HXN.out;have hr0:=LpO.boxc0 hrA;have hr1:=LpO.boxc1 hrA;have hr2:=LpO.boxc2 hrA;have hrf:=LpO.boxf hrA;have hkp:∀ j,w.heap.size+2<=j->(((W9.setCell ⟨w.heap.size+1,0,none⟩ (.slice a8 n8 q8)).setCell ⟨w.heap.size+1,1,none⟩ (.slice a9 n9 q9)).setCell ⟨w.heap.size+1,2,none⟩ (.slice a6 n6 q6)).heap[j]?=W9.heap[j]?:=fun j hk1=>by
      rw [heap_setCell_other _ _ _ _ (show j ≠ w.heap.size+1 by omega),heap_setCell_other _ _ _ _ (show j ≠ w.heap.size+1 by omega),heap_setCell_other _ _ _ _ (show j ≠ w.heap.size+1 by omega)]
     have HKPP:=ae hkp;clear hrA hkp;go_wp2_with fail;refine bodyPost_ret (v:=.tuple #[lpW a8 n8 q8 a9 n9 q9 a6 n6 q6,.bool true]) (by simp [results,Tryz.results150,go_sem,hr0,hr1,hr2]) rfl ⟨⟨a8,n8,q8,a9,n9,q9,a6,n6,q6,rfl,fun _=>⟨?_,?_,?_⟩⟩,(((HX0.out.trans HXN.out).store 0 (by omega) _).store 1 (by omega) _).store 2 (by omega) _⟩
     ·have h0:es W9 (w.heap.size+2) (.slice a8 n8 q8) (bS q n):=⟨_,HL9.out.a,HL9.out.rows⟩;exact es.intss (h0.on _ fun j h1 _=>HKPP.out j h1)
     ·exact (HL9.out.b.on _ fun j h1 _=>HKPP.out j h1).ints
     ·exact (HL9.out.c.keep fun j h1=>HKPP.out j (HL9.out.c.lt j h1).1).rats
end Go.Proofs.YthjjfkeacobikaaGreat
namespace Go.Proofs.YthjjfkeacobikaaGreat
set_option maxRecDepth 100000
open Go.RowKit
theorem box5 {w:World} {g:Nat} {a b c d e:Value} {t:TypeId} (hb:w.heap[g]?=some (.cells #[a,b,c,d,e] t (0,0))) :
 w.cell? ⟨g,0,none⟩=some a/\w.cell? ⟨g,1,none⟩=some b/\w.cell? ⟨g,2,none⟩=some c/\w.cell? ⟨g,3,none⟩=some d/\w.cell? ⟨g,4,none⟩=some e/\∀ k,w.frozen? ⟨g,k,none⟩=false:=by
 refine ⟨?_,?_,?_,?_,?_,fun k=>frozen_of_row w g k _ _ hb⟩ <;> rw [cell_of_row w g _ _ _ _ hb] <;> rfl
theorem put5 {W:World} {r:Nat} {x0 x1 x2 x3 x4:Value} {t:TypeId} (hb:W.heap[r]?=some (.cells #[x0,x1,x2,x3,x4] t (0,0))) (v0 v1 v2 v3 v4:Value) :
 (((((W.setCell ⟨r,0,none⟩ v0).setCell ⟨r,1,none⟩ v1).setCell ⟨r,2,none⟩ v2).setCell ⟨r,3,none⟩ v3).setCell ⟨r,4,none⟩ v4).heap[r]?=some (.cells #[v0,v1,v2,v3,v4] t (0,0)):=by
 have h1:=heap_setCell_same W r 0 _ t v0 hb;have h2:=heap_setCell_same _ r 1 _ t v1 h1;have h3:=heap_setCell_same _ r 2 _ t v2 h2;have h4:=heap_setCell_same _ r 3 _ t v3 h3;have h5:=heap_setCell_same _ r 4 _ t v4 h4;exact h5
theorem lI {w W:World} {r:Nat} (hX:Ext w W) (hr:w.heap.size<=r) (v0 v1 v2 v3 v4:Value):Ext w (((((W.setCell ⟨r,0,none⟩ v0).setCell ⟨r,1,none⟩ v1).setCell ⟨r,2,none⟩ v2).setCell ⟨r,3,none⟩ v3).setCell ⟨r,4,none⟩ v4) :=
 ((((hX.store 0 hr v0).store 1 hr v1).store 2 hr v2).store 3 hr v3).store 4 hr v4
theorem le_push {wr w1 w2:World} {base g:Nat} {nv rv2:Int} {vp v2 sx:Value} {P P2:List (Int × Int)} (hb:wr.heap[g]?=some (.cells #[.bool true,.int .i64 nv,.int .i64 rv2,vp,sx] 94 (0,0))) (ho:OwnR wr base vp P) (hg:w1.grownBy w2 vp.ownBlock) (hx:Ext wr w1) (h2:OwnR w2 base v2 P2) :
 w2.heap[g]?=some (.cells #[.bool true,.int .i64 nv,.int .i64 rv2,vp,sx] 94 (0,0))/\OwnR (w2.setCell ⟨g,3,none⟩ v2) base v2 P2/\(w2.setCell ⟨g,3,none⟩ v2).heap[g]?=some (.cells #[.bool true,.int .i64 nv,.int .i64 rv2,v2,sx] 94 (0,0)):=by
 have hb1:=hx.blk hb;have ho1:=ho.ext hx;have hb2:w2.heap[g]?=some (.cells #[.bool true,.int .i64 nv,.int .i64 rv2,vp,sx] 94 (0,0)):=sJ hg hb1 (ap ho1 hb1 (by decide));exact ⟨hb2,ci h2 hb2 (by decide),heap_setCell_same w2 g 3 _ _ v2 hb2⟩
def LeRet (p:Int) (V:List Int) (e:Ending):Prop:=∃ (o:Bool) (x y:Int) (pa:Option Addr) (pn pc:Nat) (wa:Option Addr) (wn wc:Nat),e=.returned (.agg #[.bool o,.int .i64 x,.int .i64 y,.slice pa pn pc,.slice wa wn wc]) /\
 (o=true->aN p V=true/\2<=p/\(bW p V).status=1/\(x,y)=negR (bW p V).value)
set_option maxHeartbeats 16000000 in
theorem lP {w:World} {p:Int} {a:Option Addr} {n cap:Nat} {V:List Int} (h:Ints w a n cap V) :
 Calls Tryz.prog 62 #[pair p a n cap] w fun e w'=>LeRet p V e/\Ext w w':=by
 obtain ⟨W,hW⟩:∃ W,W=(w.alloc (.cells #[.int .i64 p,.slice a n cap] 29)).alloc (.cells #[.bool false,.int .i64 0,.int .i64 0,.slice none 0 0,.slice none 0 0] 94):=⟨_,rfl⟩;have hws:W.heap.size=w.heap.size+2:=by rw [hW];simp
 have hX:Ext w W:=by rw [hW];exact (Ext.alloc _ _).trans (Ext.alloc _ _)
 have HRB:=ae (show W.heap[w.heap.size+1]?=some (.cells #[.bool false,.int .i64 0,.int .i64 0,.slice none 0 0,.slice none 0 0] 94 (0,0)) by rw [hW];exact aj _ _ _ (by simp));have HP0:=ae (show W.cell? ⟨w.heap.size,0,none⟩=some (.int .i64 p) by rw [hW];exact Ext.cellSome (Ext.alloc _ _) (by simp));have HP1:=ae (show W.cell? ⟨w.heap.size,1,none⟩=some (.slice a n cap) by rw [hW];exact Ext.cellSome (Ext.alloc _ _) (by simp));have HI:=ae (h.ext hX);have HX:=ae hX;have HVL:=ae h.hlen;have HLL:=ae (tC (p:=p) HI.out);have HEND:=ae (fun (w':World) (hx:Ext W w') (v0 v1 v2 v3 v4:Value)=>box5 (put5 ((hx.block _ (by omega)).trans HRB.out) v0 v1 v2 v3 v4));have HENX:=ae (fun (w':World) (hx:Ext W w') (v0 v1 v2 v3 v4:Value)=>lI (r:=w.heap.size+1) (HX.out.trans hx) (Nat.le_succ _) v0 v1 v2 v3 v4);have HRX:=ae (fun (w':World) (hx:Ext W w')=>box5 ((hx.block _ (by omega)).trans HRB.out));clear h hX;cases hgo:aN p V&&decide (2<=p)
 ·rw [hgo] at HLL;clear hgo;go_enter Tryz.func62,Tryz.ntmps62
  go_wp2_with fail;rw [<-hW];refine HLL.out.mono ?_;rintro e w1 ⟨⟨la,lna,lca,lb,lnb,lcb,lc,lnc,lcc,rfl,_⟩,hx⟩;unfold lpW;obtain ⟨w2,hw2⟩:∃ E,E=w1.alloc (be la lna lca lb lnb lcb lc lnc lcc):=⟨_,rfl⟩;have X2:Ext W w2:=by rw [hw2];exact hx.trans (Ext.alloc _ _)
  obtain ⟨q0,q1,q2,q3,q4,qf⟩:=HRX.out w2 X2;obtain ⟨z0,z1,z2,z3,z4,_⟩:=HEND.out w2 X2 (.bool false) (.int .i64 0) (.int .i64 0) (.slice none 0 0) (.slice none 0 0);have HZ:=ae (HENX.out w2 X2 (.bool false) (.int .i64 0) (.int .i64 0) (.slice none 0 0) (.slice none 0 0));go_upto_region 2 with fail;rw [<-hw2];clear hx hw2 hW;go_wp2_with fail;refine bodyPost_ret (v:=.agg #[.bool false,.int .i64 0,.int .i64 0,.slice none 0 0,.slice none 0 0]) (by simp [results,Tryz.results62,go_sem,z0,z1,z2,z3,z4]) rfl ⟨⟨_,_,_,_,_,_,_,_,_,rfl,fun h=>by cases h⟩,HZ.out⟩
 rw [hgo] at HLL;obtain ⟨hgk,hp2⟩:=both hgo;have hp2:=of_decide_eq_true hp2;have HSE:=ae (ri hgk);rw [HVL.out] at HSE;obtain ⟨r,hr0⟩:∃ r,r=bO aK (bS p.toNat n) (eA p.toNat) (co p V):=⟨_,rfl⟩;have HRR:=ae hr0;have HLP:=ae (show bW p V=r by unfold bW;rw [HVL.out,<-hr0]);obtain ⟨q,hpq,hq1,hq5,hVl,_,hVb⟩:=bd hgk;subst hpq;have HGK:=ae hgk;have hq2:2<=q:=by omega
 clear hgo hVl hVb hgk hr0 hp2;go_enter Tryz.func62,Tryz.ntmps62
 go_wp2_with fail;rw [<-hW];refine HLL.out.mono ?_;rintro e w1 ⟨⟨la,lna,lca,lb,lnb,lcb,lc,lnc,lcc,rfl,hlp⟩,hx⟩;unfold lpW;obtain ⟨w2,hw2⟩:∃ E,E=w1.alloc (be la lna lca lb lnb lcb lc lnc lcc):=⟨_,rfl⟩;have hx2:Ext w1 w2:=by rw [hw2];exact Ext.alloc _ _
 have X2:=ae (hx.trans hx2);have HSV:=ae (nH ((hlp rfl).ext hx2));rw [<-HSE.out,<-HRR.out] at HSV;have hb3:w2.heap[w1.heap.size]?=some (.cells #[.slice la lna lca,.slice lb lnb lcb,.slice lc lnc lcc] 109 (0,0)):=by rw [hw2];exact aj _ _ _ rfl
 have t0:=aq hb3;have t1:=aw hb3;have t2:=az hb3;go_upto_region 2 with fail;rw [<-hw2];clear hx hx2 hlp hw2 hW hb3;go_wp2_with fail;refine HSV.out.mono ?_
 have HST:=ae (fun (hs:r.status=1)=>show r.Y.length=q+1/\valR r.value=true/\∀ k,k<r.Y.length->valR (r.Y[k]?.getD (0,0))=true by
  have:=dq (bound:=aK) (A:=bS (q:Int).toNat n) (B:=eA (q:Int).toNat) (C:=co (q:Int) V) (by rw [<-HRR.out];exact hs);rw [<-HRR.out] at this;refine ⟨?_,this.2.2.2.2⟩;rw [this.2.2.2.1,Int.toNat_natCast];unfold eA
  simp)
 rintro e w3 ⟨⟨xa,xn,xc,ya,yn,yc,ra,rn,rc,rfl,hlr⟩,hx3⟩;obtain ⟨w4,hw4⟩:∃ E,E=w3.alloc (bI r xa xn xc ya yn yc ra rn rc):=⟨_,rfl⟩;have hx4:Ext w3 w4:=by rw [hw4];exact Ext.alloc _ _
 have X4:=ae ((X2.out.trans hx3).trans hx4);have HLR:=ae (hlr.here.ext hx4);have HB5:=ae (show w4.heap[w3.heap.size]?=some (bI r xa xn xc ya yn yc ra rn rc) by rw [hw4];exact aj _ _ _ rfl);obtain ⟨rs,rX,rY,rr,⟨rv1,rv2⟩,rp⟩:=r;unfold lrW;go_upto_region 5 with fail;rw [<-hw4];clear hlr hx3 hx4 hw4 t0 t1 t2;generalize w3.heap.size=b5 at HB5 ⊢;obtain ⟨l0,l1,l2,l3,l4,l5,l6,lf⟩:=lbox HB5.out
 try simp only at l0 l1 l2 l3 l4 l5 l6
 by_cases hs:rs=1
 ·subst hs;obtain ⟨hyl,hvr,hyv⟩:=HST.out rfl
  try simp only at hyl hvr hyv
  have hvb:=aU hvr;have HNG:=ae (fun w'=>eg rv1 rv2 w' (by omega) (by omega));have HYV:=ae hyv;have HYL:=ae (show yn=q+1 by rw [<-hyl];exact HLR.out.y.hlen.symm);have hqy:q<yn:=by have:=HYL.out;omega
  have hXX:=X4.out;have hs4:=hXX.size;obtain ⟨nv,hnv⟩:∃ v,v=-rv1:=⟨_,rfl⟩;simp only [<-hnv] at HNG;have HNV:=ae hnv;have HK7:=ae (fun (w':World) (hx:Ext w4 w')=>(⟨hx.cellSome l1,hx.cellSome l4,hx.cellSome l5,hx⟩:w'.cell? ⟨b5,1,none⟩=some (.slice xa xn xc)/\w'.cell? ⟨b5,4,none⟩=some (.int .i64 rv1)/\w'.cell? ⟨b5,5,none⟩=some (.int .i64 rv2)/\Ext w4 w'));have c0:=hXX.cellSome HP0.out;clear hyl hvr hyv hvb hnv;go_upto_region 7 with fail
  go_cut [6] (fun v wx=>∃ g,v=.pointer (some ⟨g,0,none⟩)/\Hid (wx.heap[g]?=some (.cells #[.bool true,.int .i64 nv,.int .i64 rv2,.slice none 0 0,.slice xa xn xc] 94 (0,0)))/\Hid (w4.heap.size<=g)/\Hid (Ext w4 wx))
  case first =>
   have hkd:Ext w4 w4.drew:=Ext.drew w4;refine wp_region_held_drew (S:=(fun w'=>w'.cell? ⟨b5,1,none⟩=some (.slice xa xn xc)/\w'.cell? ⟨b5,4,none⟩=some (.int .i64 rv1)/\w'.cell? ⟨b5,5,none⟩=some (.int .i64 rv2)/\Ext w4 w')) (by kernel_rfl) ?_ (fun hHeld=>?_)
   ·exact HK7.out _ hkd
   obtain ⟨wd,hwd⟩:∃ y,y=w4.drew:=⟨_,rfl⟩;rw [<-hwd] at hkd hHeld;rw [<-hwd];clear hwd;refine tk 0 ?_;refine tk 1 ?_;refine tk 3 ?_;refine tk 4 ?_;refine wpAnyH_ready (rs:=[2,6]) (by kernel_rfl) (by simp) ?_;refine AllReadyH.cons (o:=?_) ?_ (fun K hK=>?_) ?_;rotate_left
   ·simp only [gA,gB,gC];rfl
   ·
    go_simp;refine (HNG.out _).mono ?_;rintro e w6 ⟨rfl,hx6⟩;have hkd:Ext w4 w6:=hkd.trans hx6;go_wp2_with fail;refine hK.out _ _ ?_ (fun hHeld=>?_)
    ·exact HK7.out _ hkd
    clear hK K
    try simp only [Act.put,sA,sB,sC]
    refine tk 5 ?_;refine rd (i:=6) (h:=fun K hK=>?_);go_simp;refine hK.out _ _ ?_ (fun hHeld=>?_)
    ·exact HK7.out _ (hkd.trans (Ext.alloc _ _))
    clear hK K
    try simp only [Act.put,sA,sB,sC]
    obtain ⟨w7,hw7⟩:∃ y,y=w6.alloc (.cells #[.bool false,.int .i64 0,.int .i64 0,.slice none 0 0,.slice none 0 0] 94):=⟨_,rfl⟩;obtain ⟨g,hgg⟩:∃ y,y=w6.heap.size:=⟨_,rfl⟩;have hb7:w7.heap[g]?=some (.cells #[.bool false,.int .i64 0,.int .i64 0,.slice none 0 0,.slice none 0 0] 94 (0,0)):=by rw [hw7,hgg];exact aj _ _ _ rfl
    have hx7:Ext w4 w7:=by rw [hw7];exact hkd.trans (Ext.alloc _ _)
    have hg4:w4.heap.size<=g:=by rw [hgg];exact hkd.size
    rw [<-hw7] at hHeld;rw [<-hw7,<-hgg];clear hw7 hgg;obtain ⟨e0,e1,e2,e3,e4,ef⟩:=box5 hb7;refine rd (i:=7) (h:=fun K hK=>?_);go_simp;refine hK.out _ _ ?_ (fun hHeld=>?_)
    ·exact HK7.out _ (lI hx7 hg4 _ _ _ _ _)
    clear hK K
    try simp only [Act.put,sA,sB,sC]
    refine wpAnyH_done (by kernel_rfl) ?_ _;have HZB:=ae (put5 hb7 (.bool true) (.int .i64 nv) (.int .i64 rv2) (.slice none 0 0) (.slice xa xn xc));have HZX:=ae (lI hx7 hg4 (.bool true) (.int .i64 nv) (.int .i64 rv2) (.slice none 0 0) (.slice xa xn xc));go_wp2_with fail;go_meet;exact ⟨g,rfl,HZB,ae hg4,HZX⟩
   refine AllReadyH.cons (o:=?_) ?_ (fun K hK=>?_) AllReadyH.nil;rotate_left
   ·simp only [gA,gB,gC];rfl
   ·
    go_simp;refine hK.out _ _ ?_ (fun hHeld=>?_)
    ·exact HK7.out _ (hkd.trans (Ext.alloc _ _))
    clear hK K
    try simp only [Act.put,sA,sB,sC]
    obtain ⟨w6,hw6⟩:∃ y,y=wd.alloc (.cells #[.bool false,.int .i64 0,.int .i64 0,.slice none 0 0,.slice none 0 0] 94):=⟨_,rfl⟩;obtain ⟨g,hgg⟩:∃ y,y=wd.heap.size:=⟨_,rfl⟩;have hb6:w6.heap[g]?=some (.cells #[.bool false,.int .i64 0,.int .i64 0,.slice none 0 0,.slice none 0 0] 94 (0,0)):=by rw [hw6,hgg];exact aj _ _ _ rfl
    have hx6:Ext w4 w6:=by rw [hw6];exact hkd.trans (Ext.alloc _ _)
    have hg4:w4.heap.size<=g:=by rw [hgg];exact hkd.size
    rw [<-hw6] at hHeld;rw [<-hw6,<-hgg];clear hw6 hgg;refine rd (i:=2) (h:=fun K hK=>?_);go_simp;refine (HNG.out _).mono ?_;rintro e w7 ⟨rfl,hxc⟩;have hx7:Ext w4 w7:=hx6.trans hxc;have hb7:=hxc.blk hb6;go_wp2_with fail;refine hK.out _ _ ?_ (fun hHeld=>?_)
    ·exact HK7.out _ hx7
    clear hK K
    try simp only [Act.put,sA,sB,sC]
    refine tk 5 ?_;obtain ⟨e0,e1,e2,e3,e4,ef⟩:=box5 hb7;refine rd (i:=7) (h:=fun K hK=>?_);go_simp;refine hK.out _ _ ?_ (fun hHeld=>?_)
    ·exact HK7.out _ (lI hx7 hg4 _ _ _ _ _)
    clear hK K
    try simp only [Act.put,sA,sB,sC]
    refine wpAnyH_done (by kernel_rfl) ?_ _;have HZB:=ae (put5 hb7 (.bool true) (.int .i64 nv) (.int .i64 rv2) (.slice none 0 0) (.slice xa xn xc));have HZX:=ae (lI hx7 hg4 (.bool true) (.int .i64 nv) (.int .i64 rv2) (.slice none 0 0) (.slice xa xn xc));go_wp2_with fail;go_meet;exact ⟨g,rfl,HZB,ae hg4,HZX⟩
  obtain ⟨g,rfl,HGB,HG4,XC⟩:=hcut;have HXC:=ae (hXX.trans XC.out);have c0c:=XC.out.cellSome c0;clear l0 l1 l2 l3 l4 l5 l6 lf c0 hXX HK7;go_wp2_with fail
  go_loopg [7] q (fun gk ii wr=>∃ (k:Nat) (vp:Value) (P:List (Int × Int)),Hid (gk+k=q)/\ii=.int .i64 (k:Int)/\Hid (P.length=k)/\Hid (wr.heap[g]?=some (.cells #[.bool true,.int .i64 nv,.int .i64 rv2,vp,.slice xa xn xc] 94 (0,0)))/\Hid (OwnR wr w4.heap.size vp P)/\Hid (Ext w4 wr))
  case atStart=>exact ⟨0,_,[],ae (by omega),rfl,ae rfl,HGB,ae (OwnR.nil _ _),XC⟩
  case round =>
   obtain ⟨g1,h_g1⟩:∃ x,x=gk:=⟨_,rfl⟩;subst h_g1;obtain ⟨wr,h_wr⟩:∃ x,x=wr:=⟨_,rfl⟩;subst h_wr;obtain ⟨k,vp,P,HK,rfl,HPL,HBX,HOP,XR⟩:=hrel;have hc0:=(X4.out.trans XR.out).cellSome HP0.out;obtain ⟨e0,e1,e2,e3,e4,ef⟩:=box5 HBX.out;by_cases hlt:k<q
   ·have hki:(k:Int)<(q:Int):=by omega
    have hk0:(0:Int)<=(k:Int):=by omega
    have hky:(k:Int)<(yn:Int):=by omega
    have hkyn:k<yn:=by omega
    obtain ⟨yb,yo,y1,y2,hye,hyv,hya,hyb⟩:=(HLR.out.y.ext XR.out).at hkyn;subst hye;have hv:=HYV.out k (by rw [show rY.length=yn from HLR.out.y.hlen];exact hkyn);simp only at hyv;rw [hyv] at hv;have hvb:=aU hv;have HNY:=ae (fun w'=>eg y1 y2 w' (by omega) (by omega));have m2:=cell_of_row wr b5 2 _ _ _ ((XR.out.block _ (lt_of_block HB5.out)).trans HB5.out);obtain ⟨ny,hny⟩:∃ v,v=-y1:=⟨_,rfl⟩;simp only [<-hny] at HNY;have hszr:W.heap.size<=wr.heap.size:=(X4.out.trans XR.out).size;have m2':wr.cell? ⟨b5,2,none⟩=some (.slice (some ⟨yb,yo,none⟩) yn yc):=m2;have HYE:=ae hyv;clear m2 hv hvb hyv hny;have HKR:=ae (fun (w':World) (hx:Ext wr w')=>(⟨hx.cellSome e3,hx.cellSome m2',hx.cellSome hya,hx.cellSome hyb,XR.out.trans hx⟩:w'.cell? ⟨g,3,none⟩=some vp/\w'.cell? ⟨b5,2,none⟩=some (.slice (some ⟨yb,yo,none⟩) yn yc)/\w'.cell? ⟨yb,yo+k*2,none⟩=some (.int .i64 y1)/\w'.cell? ⟨yb,yo+k*2+1,none⟩=some (.int .i64 y2)/\Ext w4 w'));have HM2:=ae (show ∀ w',Ext w4 w'->w'.cell? ⟨b5,2,none⟩=some (.slice (some ⟨yb,yo,none⟩) yn yc) from fun w' hx=>cell_of_row w' b5 2 _ _ _ ((hx.block _ (lt_of_block HB5.out)).trans HB5.out))
    have HYC:=ae (show ∀ w',Ext w4 w'->w'.cell? ⟨yb,yo+k*2,none⟩=some (.int .i64 y1)/\w'.cell? ⟨yb,yo+k*2+1,none⟩=some (.int .i64 y2) from fun w' hx=>by
     obtain ⟨u1,u2,u3,u4,hue,huv,hu1,hu2⟩:=(HLR.out.y.ext hx).at hkyn;simp only [Option.some.injEq,Addr.mk.injEq,and_true] at hue;obtain ⟨rfl,rfl⟩:=hue;rw [HYE.out] at huv;simp only [Prod.mk.injEq] at huv;obtain ⟨rfl,rfl⟩:=huv
     exact ⟨hu1,hu2⟩)
    have hkd:Ext wr wr.drew:=Ext.drew wr;have hs4r:=XR.out.size;go_upto_region 11 with fail;refine cz (M:=[11]) (S:=fun w'=>w'.cell? ⟨g,3,none⟩=some vp/\w'.cell? ⟨b5,2,none⟩=some (.slice (some ⟨yb,yo,none⟩) yn yc)/\w'.cell? ⟨yb,yo+k*2,none⟩=some (.int .i64 y1)/\w'.cell? ⟨yb,yo+k*2+1,none⟩=some (.int .i64 y2)/\Ext w4 w') (by kernel_rfl) ?_;have hHeld:=HKR.out _ hkd;obtain ⟨wd,hwd⟩:∃ y,y=wr.drew:=⟨_,rfl⟩;rw [<-hwd] at hkd hHeld;rw [<-hwd];clear hwd;have hsd:=hkd.size;refine lp 0 ?_;refine ll 1 ?_;refine lp 2 ?_;refine ll 3 ?_;refine lp 4 ?_;refine lp 5 ?_;refine ll 6 ?_;refine aJ (i:=7) (oi:=?_) ?_ ?_ ?_ (fun K hK=>?_);rotate_left
    ·simp only [gA,gB,gC];rfl
    ·kernel_rfl
    ·kernel_rfl
    go_simp;go_at_call 88;refine (HNY.out _).mono ?_;rintro e w8 ⟨rfl,hx8⟩;have hkd:Ext wr w8:=hkd.trans hx8;have hs8:=hkd.size;go_wp2_with fail;refine hK.out _ _ (fun _=>HKR.out _ hkd) ?_;have hHeld:=HKR.out _ hkd;clear hK K
    try simp only [Act.put,sA,sB,sC]
    refine aJ (i:=8) (oi:=?_) ?_ ?_ ?_ (fun K hK=>?_);rotate_left
    ·simp only [gA,gB,gC];rfl
    ·kernel_rfl
    ·kernel_rfl
    go_simp;refine hK.out _ _ (fun _=>HKR.out _ (hkd.trans (Ext.alloc _ _))) ?_;clear hK K
    try simp only [Act.put,sA,sB,sC]
    refine aJ (i:=9) (oi:=?_) ?_ ?_ ?_ (fun K hK=>?_);rotate_left
    ·simp only [gA,gB,gC];rfl
    ·kernel_rfl
    ·kernel_rfl
    refine cH _ _ (by rfl) w4.heap.size vp _ (by rfl) ((HOP.out.ext hkd).ext (Ext.alloc _ _)) _ 1 _ [(ny,y2)] (by rfl) (Rats.one' _ _ _ _ _ rfl) (by rw [HPL.out];omega) (by simp;omega) ?_;intro v9 w9 ho hg9 hnear;obtain ⟨hbx,hob,hbb⟩:=le_push HBX.out HOP.out hg9 (hkd.trans (Ext.alloc _ _)) ho;have hX9:Ext w4 w9:=ak ((XR.out.trans hkd).trans (Ext.alloc _ _)) hg9 (fun j hj=>(HOP.out.lt j hj).1);have c9:=(box5 hbx).2.2.2.1;have cf9:=(box5 hbx).2.2.2.2.2;obtain ⟨a9,n9,q9,rfl,HN9⟩:=ho.var;have HO9:=ae hob;have HB9:=ae hbb;clear ho hg9 hnear hbx hob hbb;refine hK.out _ _ (fun _=>And.intro c9 (And.intro (HM2.out _ hX9) (And.intro (HYC.out _ hX9).1 (And.intro (HYC.out _ hX9).2 hX9)))) ?_;have hHeld:=And.intro c9 (And.intro (HM2.out _ hX9) (And.intro (HYC.out _ hX9).1 (And.intro (HYC.out _ hX9).2 hX9)));clear hK K
    try simp only [Act.put,sA,sB,sC]
    refine lp 10 ?_;refine cV (i:=11) (oi:=?_) (w':=?_) ?_ ?_ ?_ ?_ ?_ ?_ ?_;rotate_left 2
    ·simp only [gA,gB,gC];rfl
    ·kernel_rfl
    ·kernel_rfl
    ·exact of_decide_eq_true (by kernel_rfl)
    ·rfl
    ·go_simp;(try with_reducible rfl)
    try simp only [Act.put,sA,sB,sC]
    refine cW (by kernel_rfl) ?_ _;have HXN:=ae (hX9.store (b:=g) 3 HG4.out (.slice a9 n9 q9));clear hHeld hkd c9 cf9 hX9 e0 e1 e2 e3 e4 ef hya hyb m2';go_wp2_with fail
    go_roundg (g1-1)
    case measure=>have:=HK.out;omega
    case rel=>exact ⟨k+1,_,_,ae (by have:=HK.out;omega),by go_num,ae (by rw [List.length_append,HPL.out];rfl),HB9,HO9,HXN⟩
   ·have hki:¬ (k:Int)<(q:Int):=by omega
    obtain ⟨pa,pn,pc,rfl,HPN⟩:=HOP.out.var;have XW:=X4.out.trans XR.out;obtain ⟨q0,q1,q2,q3,q4,qf⟩:=HRX.out wr XW;obtain ⟨z0,z1,z2,z3,z4,_⟩:=HEND.out wr XW (.bool true) (.int .i64 nv) (.int .i64 rv2) (.slice pa pn pc) (.slice xa xn xc);have HZ:=ae (HENX.out wr XW (.bool true) (.int .i64 nv) (.int .i64 rv2) (.slice pa pn pc) (.slice xa xn xc));clear XW;go_wp2_with fail;refine bodyPost_ret (v:=.agg #[.bool true,.int .i64 nv,.int .i64 rv2,.slice pa pn pc,.slice xa xn xc]) (by simp [results,Tryz.results62,go_sem,z0,z1,z2,z3,z4]) rfl ⟨⟨_,_,_,_,_,_,_,_,_,rfl,fun _=>⟨HGK.out,by omega,by rw [HLP.out],by rw [HLP.out,HNV.out];rfl⟩⟩,HZ.out⟩
 ·have hsb:(rs != 1)=true:=by simp [hs]
  have X4':=X4.out;obtain ⟨q0,q1,q2,q3,q4,qf⟩:=HRX.out w4 X4';obtain ⟨z0,z1,z2,z3,z4,_⟩:=HEND.out w4 X4' (.bool false) (.int .i64 0) (.int .i64 0) (.slice none 0 0) (.slice none 0 0);have HZ:=ae (HENX.out w4 X4' (.bool false) (.int .i64 0) (.int .i64 0) (.slice none 0 0) (.slice none 0 0));clear hs;go_wp2_with fail;refine bodyPost_ret (v:=.agg #[.bool false,.int .i64 0,.int .i64 0,.slice none 0 0,.slice none 0 0]) (by simp [results,Tryz.results62,go_sem,z0,z1,z2,z3,z4]) rfl ⟨⟨_,_,_,_,_,_,_,_,_,rfl,fun h=>by cases h⟩,HZ.out⟩
end Go.Proofs.YthjjfkeacobikaaGreat
