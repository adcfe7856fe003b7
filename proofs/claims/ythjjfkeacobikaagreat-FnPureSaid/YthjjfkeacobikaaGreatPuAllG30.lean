import Derived.Test.YthjjfkeacobikaaGreatPuAllG29
import Derived.Test.YthjjfkeacobikaaGreatPuAllG24
import Derived.Test.YthjjfkeacobikaaGreatPuAllG7
import Derived.Test.YthjjfkeacobikaaGreatPuAllG20
import Derived.Test.YthjjfkeacobikaaGreatPuAllG27
set_option linter.unusedVariables false
set_option linter.unusedSimpArgs false
namespace Go.Proofs.YthjjfkeacobikaaGreat
open Go.RowKit
structure St3 (W Wc:World) (B z:Nat) (va:Value) (us rs:List Value) (A:List (List Int)) (vc:Value) (C:List (Int × Int)):Prop where
 out:OwnV Wc B va us
 rows:bj Wc B rs A
 top:∀ i k,i<A.length->(rs[i]?.getD undef).ownBlock=some k->k<z
 c:OwnR Wc B vc C
 ext:Ext W Wc
 hz:z<=Wc.heap.size
theorem St3.more {W Wc Wd:World} {B z:Nat} {va:Value} {us rs:List Value} {A:List (List Int)} {vc:Value} {C:List (Int × Int)} (h:St3 W Wc B z va us rs A vc C) (hx:Ext Wc Wd):St3 W Wd B z va us rs A vc C :=
 ⟨h.out.ext hx,h.rows.ext hx,h.top,h.c.ext hx,h.ext.trans hx,Nat.le_trans h.hz hx.size⟩
theorem St3.push {W Wc Wd We:World} {B z:Nat} {va va':Value} {us us' rs:List Value} {A:List (List Int)} {vc:Value} {C:List (Int × Int)} (h:St3 W Wc B z va us rs A vc C) (hx:Ext Wc Wd) (hg:Wd.grownBy We va.ownBlock) (ho:OwnV We B va' us') (hB:W.heap.size<=B):St3 W We B z va' us' rs A vc C:=by
 have h1:=h.more hx;refine ⟨ho,h1.rows.keep fun i k hi hk=>hg.block k ((h1.rows.row i hi).lt k hk).2 fun e=>(h1.rows.row i hi).apart h1.out k hk e.symm,h.top,?_,h1.ext.grown hg fun k hk=>Nat.le_trans hB (h1.out.lt k hk).1,Nat.le_trans h1.hz hg.size⟩;exact h1.c.keep fun k hk=>hg.block k (h1.c.lt k hk).2 fun e=>au (by decide) h1.c h1.out k hk e.symm
theorem St3.growT {W Wc Wd We:World} {B z:Nat} {va:Value} {us rs:List Value} {A:List (List Int)} {vc:Value} {C:List (Int × Int)} (h:St3 W Wc B z va us rs A vc C) (hx:Ext Wc Wd) {vT:Value} {l:List Int} (hT:OwnI Wd z vT l) (hg:Wd.grownBy We vT.ownBlock) (hzW:W.heap.size<=z):St3 W We B z va us rs A vc C:=by
 have h1:=h.more hx;refine ⟨h1.out.keep fun k hk=>hg.block k (h1.out.lt k hk).2 fun e=>hT.apart h1.out k e.symm hk,h1.rows.keep fun i k hi hk=>hg.block k ((h1.rows.row i hi).lt k hk).2 fun e=>?_,h.top,h1.c.keep fun k hk=>hg.block k (h1.c.lt k hk).2 fun e=>au (by decide) h1.c hT k hk e.symm,h1.ext.grown hg fun k hk=>Nat.le_trans hzW (hT.lt k hk).1,Nat.le_trans h1.hz hg.size⟩;have h2:=h.top i k hi hk;have h3:=(hT.lt k e.symm).1;omega
theorem St3.start {W w4 w15:World} {B:Nat} {a:Option Addr} {N cap:Nat} {vs:List Value} {A:List (List Int)} {vl:Value} {l:List Int} {vc:Value} {C:List (Int × Int)} (hM:Mat w4 B a N cap vs A) (hx:Ext w4 w15) (hl:OwnI w15 w4.heap.size vl l) (hb:B<=w4.heap.size) (hc:OwnR w15 B vc C) (hW:Ext W w15) :
 St3 W w15 B w15.heap.size (.slice a N cap) vs (vs++[vl]) (A++[l]) vc C :=
 have hr:=hM.rows.snoc hx hl hb
 ⟨hM.own.ext hx,hr,fun i k hi hk=>((hr.row i hi).lt k hk).2,hc,hW,Nat.le_refl _⟩
theorem Ints.ofCell {w:World} {n:Nat} {x:Int} (h:w.cell? ⟨n,0,none⟩=some (.int .i64 x)):Ints w (some ⟨n,0,none⟩) 1 1 [x] :=
 ⟨rfl,Nat.le_refl _,by omega,fun k hk=>⟨n,0,rfl,fun k hk=>by
  obtain rfl:k=0:=by omega
  exact h⟩⟩
set_option maxRecDepth 100000
theorem kF {p:Int} {V:List Int} {L:List (Int × Int × Int)} (h:stOk p V L=true):stAx p V L=stA p.toNat V L/\stBx p V L=stB p.toNat/\stCx p V L=stC V L:=by unfold stAx stBx stCx;rw [h];exact ⟨rfl,rfl,rfl⟩
theorem mj {α β:Type} (f:α->β) (A B T:List α):(A++B).map f++T.map f=(A++(B++T)).map f:=by simp
theorem stOk_ext {p:Int} {V:List Int} {L:List (Int × Int × Int)} {n:Nat} (hg:dl p V L=true) (hn:V.length=n) (h1:1<=n) (hV:∀ y ∈ V,-500<=y/\y<=500):stOk p V L=(extE n L).all (fitC V):=by
 unfold stOk;rw [hg,oW hn h1 hV];rfl
set_option maxHeartbeats 16000000 in
theorem pA {w:World} {p:Int} {a:Option Addr} {n cap:Nat} {V:List Int} (hV:Ints w a n cap V) {fa:Option Addr} {fn fcap:Nat} {L:List (Int × Int × Int)} (h:Fixs w fa fn fcap L) (hfn:fn<=1048576) :
 Calls Tryz.prog 133 #[pair p a n cap,.slice fa fn fcap] w fun e w' =>
  jv w' w.heap.size e (stAx p V L) (stBx p V L) (stCx p V L) (stOk p V L)/\Ext w w':=by
 obtain ⟨W,hW⟩:∃ W,W=(w.alloc (.cells #[.int .i64 p,.slice a n cap] 29)).alloc (.cells #[.slice none 0 0,.slice none 0 0,.slice none 0 0] 109):=⟨_,rfl⟩;have HWS:=ae (show W.heap.size=w.heap.size+2 by rw [hW];simp);have HX0:=ae (show Ext w W by rw [hW];exact (Ext.alloc _ _).trans (Ext.alloc _ _));have HWC:=ae (show W.cell? ⟨w.heap.size,1,none⟩=some (.slice a n cap) by rw [hW];simp);have HWD:=ae (show W.cell? ⟨w.heap.size,0,none⟩=some (.int .i64 p) by rw [hW];simp);have HWR:=ae (show W.heap[w.heap.size+1]?=some (.cells #[.slice none 0 0,.slice none 0 0,.slice none 0 0] 109 (0,0)) by rw [hW];exact aj _ _ _ (by simp));have HVL:=ae hV.hlen;have hvcap:=hV.hcap;have hvmax:=hV.hmax;have hfcap:=h.hcap;have hfmax:=h.hmax;have HFL:=ae h.hlen;have HF:=ae (h.ext HX0.out);have HVE:=ae (hV.ext HX0.out);have HC:=ae (fi (p:=p) (hV.ext HX0.out));have hrbl:(w.heap.size+1)<W.heap.size:=by rw [HWS.out];omega
 have HRB:=ae (fun (w':World) (hx:Ext W w')=>(hx.block _ hrbl).trans HWR.out)
 have HEND:=ae (fun (w':World) (hx:Ext W w') (hno:stOk p V L=false) (e:Ending) (he:e=.returned (.tuple #[.agg #[.slice none 0 0,.slice none 0 0,.slice none 0 0],.bool false])) =>
  show jv (((w'.setCell ⟨w.heap.size+1,0,none⟩ (.slice none 0 0)).setCell ⟨w.heap.size+1,1,none⟩ (.slice none 0 0)).setCell ⟨w.heap.size+1,2,none⟩ (.slice none 0 0)) w.heap.size e (stAx p V L) (stBx p V L) (stCx p V L) (stOk p V L)/\Ext w (((w'.setCell ⟨w.heap.size+1,0,none⟩ (.slice none 0 0)).setCell ⟨w.heap.size+1,1,none⟩ (.slice none 0 0)).setCell ⟨w.heap.size+1,2,none⟩ (.slice none 0 0)) from
   ⟨⟨_,_,_,[],by rw [hno];exact he,OwnV.nil _ _,by unfold stAx;rw [hno,if_neg (by simp)];exact bj.nil _ _,by unfold stBx;rw [hno,if_neg (by simp)];exact OwnI.nil _ _,by unfold stCx;rw [hno,if_neg (by simp)];exact OwnR.nil _ _,OffV.nil _⟩,
     (((HX0.out.trans hx).store 0 (by omega) _).store 1 (by omega) _).store 2 (by omega) _⟩)
 clear h hV hrbl;cases hg:bL p V
 ·have HG:=ae (show stOk p V L=false by unfold stOk dl;rw [hg];rfl);rw [hg,hW] at HC;clear hg;go_enter Tryz.func133,Tryz.ntmps133
  go_wp2_with fail;refine HC.out.mono ?_;rw [<-hW];rintro e w1 ⟨rfl,hx1⟩;have hr0:=LpO.boxc0 (HRB.out w1 hx1);have hr1:=LpO.boxc1 (HRB.out w1 hx1);have hr2:=LpO.boxc2 (HRB.out w1 hx1);have hrf:=LpO.boxf (HRB.out w1 hx1);have HX1:=ae hx1;clear hx1;go_wp2_with fail;refine bodyPost_ret (v:=.tuple #[.agg #[.slice none 0 0,.slice none 0 0,.slice none 0 0],.bool false]) (by simp [results,Tryz.results133,go_sem,hr0,hr1,hr2]) rfl (HEND.out _ HX1.out HG.out _ rfl)
 ·obtain ⟨q,rfl,h1,h5,hlen,_,hvb⟩:=dG hg;have HGO:=ae hg;rw [hg,hW] at HC;clear hg;by_cases hq2:q<2
  ·have HG:=ae (show stOk (q:Int) V L=false by unfold stOk dl;rw [HGO.out,decide_eq_false (by omega:¬ (2:Int)<=(q:Int))];rfl);clear hlen hvb;have hq2':(q:Int)<2:=by omega
   go_enter Tryz.func133,Tryz.ntmps133
   go_wp2_with fail;refine HC.out.mono ?_;rw [<-hW];rintro e w1 ⟨rfl,hx1⟩;have hc0:=hx1.cellSome HWD.out;have hr0:=LpO.boxc0 (HRB.out w1 hx1);have hr1:=LpO.boxc1 (HRB.out w1 hx1);have hr2:=LpO.boxc2 (HRB.out w1 hx1);have hrf:=LpO.boxf (HRB.out w1 hx1);have HX1:=ae hx1;clear hx1;go_wp2_with fail;refine bodyPost_ret (v:=.tuple #[.agg #[.slice none 0 0,.slice none 0 0,.slice none 0 0],.bool false]) (by simp [results,Tryz.results133,go_sem,hr0,hr1,hr2]) rfl (HEND.out _ HX1.out HG.out _ rfl)
  ·have hn4:4<=n:=by have:=cN_ge (n:=q) (by omega) h5;rw [<-HVL.out,hlen];exact this
   have hn32:n<=32:=by have:=eX q h5;rw [<-HVL.out,hlen];exact this.2
   obtain ⟨u,rfl⟩:∃ u,n=u+1:=⟨n-1,by omega⟩;have HVB:=ae hvb
   have HOG:=ae (show dl (q:Int) V L=(ordX L ((u:Int)-1) fn&&decide (0<(aN L (u+1-2)).length)) by
    unfold dl;rw [HGO.out,decide_eq_true (by omega:(2:Int)<=(q:Int)),HVL.out,HFL.out]
    rw [show (((u+1:Nat):Int))-2=(u:Int)-1 by omega];rfl)
   have hq2':¬ (q:Int)<2:=by omega
   have hlen1:((u+1:Nat):Int)-1=(u:Int):=by omega
   clear hlen hvb;go_enter Tryz.func133,Tryz.ntmps133
   go_wp2_with fail;refine HC.out.mono ?_;rw [<-hW];clear hW;rintro e w1 ⟨rfl,hx1⟩;have hc0:=hx1.cellSome HWD.out;have hc1:=hx1.cellSome HWC.out;have HX1:=ae hx1;clear hx1 HC;go_wp2_with fail;clear hc0 hc1
   go_loopg [7,39] fn (fun gk ss ii wr=>∃ k:Nat,Hid (gk+k=fn)/\ii=.int .i64 (k:Int)/\ss=.int .i64 ((eO (L.take k):Nat):Int)/\Hid (ordX L ((u:Int)-1) k=true)/\Hid (Ext W wr))
   case atStart=>exact ⟨0,ae (by omega),rfl,rfl,ae rfl,HX1⟩
   case round =>
    obtain ⟨g1,h_g1⟩:∃ x,x=gk:=⟨_,rfl⟩;subst h_g1;obtain ⟨wr1,h_wr1⟩:∃ x,x=wr:=⟨_,rfl⟩;subst h_wr1;obtain ⟨k,HK,rfl,rfl,HO,HX⟩:=hrel;have hszr:=HX.out.size;rw [HWS.out] at hszr;by_cases hlt:k<fn
    ·obtain ⟨b,off,c,x,y,rfl,hxy,hf0,hf1,hf2⟩:=(HF.out.ext HX.out).at hlt;have hkl:k<L.length:=by rw [HFL.out];exact hlt
     have hrw:=HRB.out wr1 HX.out;have hwn:IntKind.i64.wrap ((u:Int)-1)=(u:Int)-1:=by rw [IntKind.wrap_i64];omega
     cases hb:inB c 1 ((u:Int)-1)
     ·have HG:=ae (show stOk (q:Int) V L=false by
       unfold stOk;rw [HOG.out,ft (k:=k) (m:=fn) (by rw [hxy];simp only;rw [hb];rfl) hlt];rfl)
      have hrA:=HRB.out _ (HX.out.trans (Ext.alloc wr1 (.cells #[.int .i64 c,.int .i64 x,.int .i64 y] 79)));have hr0:=LpO.boxc0 hrA;have hr1:=LpO.boxc1 hrA;have hr2:=LpO.boxc2 hrA;have hrf:=LpO.boxf hrA;clear hrA;clear hxy hrw;go_wp2_with (first|(go_at_call 80;refine (aU _ _ _ _).mono ?_;rw [hb];rintro e w' ⟨rfl,rfl⟩));refine bodyPost_ret (v:=.tuple #[.agg #[.slice none 0 0,.slice none 0 0,.slice none 0 0],.bool false]) (by simp [results,Tryz.results133,go_sem,hr0,hr1,hr2]) rfl (HEND.out _ (HX.out.trans (Ext.alloc _ _)) HG.out _ rfl)
     ·have hcb:1<=c/\c<=(u:Int)-1:=by unfold inB at hb;simpa using hb
      obtain ⟨t,rfl⟩:∃ t:Nat,c=t:=⟨c.toNat,by omega⟩;have hLk:∀ f ∈ L.take k,1<=f.1/\f.1<=(u:Int)-1:=by
       intro f hf;obtain ⟨i,hi,rfl⟩:=List.mem_take_iff_getElem.1 hf;have:=(List.all_eq_true.1 HO.out) i (List.mem_range.2 (by omega));rw [List.getElem?_eq_getElem (by omega)] at this;simp only [Option.getD_some,Bool.and_eq_true,inB,decide_eq_true_eq] at this;exact this.1
      have hsl:=seenN_lt (L.take k) (fun f hf=>by have:=hLk f hf;omega);have hbt:=lG ((eO (L.take k):Nat):Int) t (by omega) (by omega);rw [bit_nat,qq t _ (fun f hf=>by have:=hLk f hf;omega)] at hbt;have hpw:=pow_le30 t (by omega);have hkw:IntKind.i64.wrap ((2:Int) ^ t)=2 ^ t:=by rw [IntKind.wrap_i64];omega
      cases hh:hasX (L.take k) (t:Int)
      ·rw [hh] at hbt;have HN:=ae (show ordX L ((u:Int)-1) (k+1)=true by rw [lg,HO.out,hxy];simp only;rw [hb,hh];rfl);have hsn:=oS hkl;rw [hxy] at hsn;simp only [Int.toNat_natCast] at hsn;have hor:=or_pow (k:=t) hsl (by omega);rw [<-hsn] at hor;clear hsn hxy hLk hh;obtain ⟨s0,hs0⟩:∃ s,s=eO (L.take k):=⟨_,rfl⟩;obtain ⟨s1,hs1⟩:∃ s,s=eO (L.take (k+1)):=⟨_,rfl⟩;rw [<-hs0] at hbt hor hsl;rw [<-hs1] at hor;rw [<-hs0];have HS1:=ae hs1;clear hs0 hs1;go_wp2_with (first|(go_at_call 80;refine (aU _ _ _ _).mono ?_;rw [hb];rintro e w' ⟨rfl,rfl⟩))
       go_roundg (g1-1)
       case measure=>have:=HK.out;omega
       case rel=>exact ⟨k+1,ae (by have:=HK.out;omega),by go_num,by rw [<-HS1.out],HN,ae (HX.out.trans (Ext.alloc _ _))⟩
      ·rw [hh] at hbt
       have HG:=ae (show stOk (q:Int) V L=false by
        unfold stOk;rw [HOG.out,ft (k:=k) (m:=fn) (by rw [hxy];simp only;rw [hh];simp) hlt];rfl)
       have hrA:=HRB.out _ (HX.out.trans (Ext.alloc wr1 (.cells #[.int .i64 (t:Int),.int .i64 x,.int .i64 y] 79)));have hr0:=LpO.boxc0 hrA;have hr1:=LpO.boxc1 hrA;have hr2:=LpO.boxc2 hrA;have hrf:=LpO.boxf hrA;clear hrA;clear hxy hrw hLk hh;obtain ⟨s0,hs0⟩:∃ s,s=eO (L.take k):=⟨_,rfl⟩;rw [<-hs0] at hbt hsl;rw [<-hs0];clear hs0;go_wp2_with (first|(go_at_call 80;refine (aU _ _ _ _).mono ?_;rw [hb];rintro e w' ⟨rfl,rfl⟩));refine bodyPost_ret (v:=.tuple #[.agg #[.slice none 0 0,.slice none 0 0,.slice none 0 0],.bool false]) (by simp [results,Tryz.results133,go_sem,hr0,hr1,hr2]) rfl (HEND.out _ (HX.out.trans (Ext.alloc _ _)) HG.out _ rfl)
    ·have hkf:k=fn:=by have:=HK.out;omega
     subst hkf;have hLb:∀ f ∈ L,1<=f.1/\f.1<=(u:Int)-1:=by
      intro f hf;obtain ⟨i,hi,rfl⟩:=List.getElem_of_mem hf;have:=(List.all_eq_true.1 HO.out) i (List.mem_range.2 (by rw [<-HFL.out];exact hi));rw [List.getElem?_eq_getElem hi] at this;simp only [Option.getD_some,Bool.and_eq_true,inB,decide_eq_true_eq] at this;exact this.1
     have HLB:=ae hLb;have HFRE:=ae (fN (w:=wr1) (q:Int) a (u+1) cap (by omega) (by omega) (HF.out.ext HX.out));have HMM:=ae (fun s=>gh (L:=L) (m:=u+1-2) (s:=s));have HML:=ae (dh L (u+1-2));have hcA:=HX.out.cellSome HWD.out;have hcB:=HX.out.cellSome HWC.out;clear hLb;go_wp2_with fail;refine HFRE.out.mono ?_;rintro e w2 ⟨⟨vf,rfl,hfo⟩,hx2⟩;obtain ⟨af,m,cf,rfl,hfm⟩:=hfo.var;have HX2:=ae (HX.out.trans hx2);have HFO:=ae (hfo.mono (base':=w.heap.size+2) hszr);have HFM:=ae hfm.out;have hmb:m<=32:=by have:=HML.out;have:=hfm.out;omega
     have hsz2:=HX2.out.size;rw [HWS.out] at hsz2;clear hfo hfm hx2 hcA hcB HFRE;by_cases hm0:m=0
     ·subst hm0
      have HG:=ae (show stOk (q:Int) V L=false by
       unfold stOk;rw [HOG.out,HFM.out];simp)
      have hrA:=HRB.out _ HX2.out;have hr0:=LpO.boxc0 hrA;have hr1:=LpO.boxc1 hrA;have hr2:=LpO.boxc2 hrA;have hrf:=LpO.boxf hrA;clear hrA;go_wp2_with fail;refine bodyPost_ret (v:=.tuple #[.agg #[.slice none 0 0,.slice none 0 0,.slice none 0 0],.bool false]) (by simp [results,Tryz.results133,go_sem,hr0,hr1,hr2]) rfl (HEND.out _ HX2.out HG.out _ rfl)
     ·have HGL:=ae (show dl (q:Int) V L=true by rw [HOG.out,HO.out,HFM.out];simp;omega);have hmz:((m:Int) == 0)=false:=by simpa using hm0
      have HCLN:=ae (jy HFO.out.ints (by omega));have hmcap:=HFO.out.ints.hcap;have hmmax:=HFO.out.ints.hmax;go_wp2_with fail;refine HCLN.out.mono ?_;rintro e w3 ⟨vcl,rfl,hco,hx3⟩;obtain ⟨acl,ncl,ccl,rfl,hncl⟩:=hco.var;have HNCL:=ae (show ncl=m by rw [<-hncl.out,HFM.out]);have HX3:=ae (HX2.out.trans hx3);have HFO3:=ae (HFO.out.ext hx3);have HCO3:=ae (hco.mono (base':=w.heap.size+2) hsz2);have hsz3:=HX3.out.size;rw [HWS.out] at hsz3;have HR0:=ae (OwnR.made w3 (w.heap.size+2) hsz3);clear hco hncl hx3;go_wp2_with fail
      go_loopg [12,76] m (fun gk cc ii wr=>∃ (k:Nat) (a1:Option Addr) (n1 p1:Nat),Hid (gk+k=m)/\ii=.int .i64 (k:Int)/\cc=.slice a1 n1 p1/\Hid (OwnR wr (w.heap.size+2) (.slice a1 n1 p1) ((be V ((aN L (u+1-2)).take k)).map fun c=>c.2.2.2))/\Hid (OwnI wr (w.heap.size+2) (.slice af m cf) (aN L (u+1-2)))/\Hid (OwnI wr (w.heap.size+2) (.slice acl ncl ccl) (aN L (u+1-2)))/\Hid (Ext W wr))
      case atStart=>exact ⟨0,_,_,_,ae (by omega),rfl,rfl,HR0,ae (HFO3.out.ext (Ext.alloc _ _)),ae (HCO3.out.ext (Ext.alloc _ _)),ae (HX3.out.trans (Ext.alloc _ _))⟩
      case round =>
       obtain ⟨g2,h_g2⟩:∃ x,x=gk:=⟨_,rfl⟩;subst h_g2;obtain ⟨wr2,h_wr2⟩:∃ x,x=wr:=⟨_,rfl⟩;subst h_wr2;obtain ⟨j,a1,n1,p1,HJ,rfl,rfl,HRO,HFK,HCK,HXK⟩:=hrel;have hszk:=HXK.out.size;rw [HWS.out] at hszk;have hcB:=HXK.out.cellSome HWC.out;by_cases hjm:j<m
       ·obtain ⟨b,off,he,hsc⟩:=HFK.out.ints.at hjm;subst he;obtain ⟨s,hs⟩:∃ s,s=(aN L (u+1-2))[j]?.getD 0:=⟨_,rfl⟩;rw [<-hs] at hsc;have hjl:j<(aN L (u+1-2)).length:=by rw [HFM.out];exact hjm
        have hsm:=HMM.out s (by rw [hs,List.getElem?_eq_getElem hjl];exact List.getElem_mem hjl);obtain ⟨t,rfl⟩:∃ t:Nat,s=t:=⟨s.toNat,by omega⟩;have htn:t<u+1:=by omega
        obtain ⟨vb,voff,hve,hvc⟩:=((HVE.out.ext HXK.out).at htn);subst hve;have hyb:=gJ HVB.out t;obtain ⟨y,hy⟩:∃ y,y=V[t]?.getD 0:=⟨_,rfl⟩;rw [<-hy] at hvc hyb
        have HSN:=ae (show ((be V ((aN L (u+1-2)).take j)).map fun c=>c.2.2.2)++[(-y,1)]=(be V ((aN L (u+1-2)).take (j+1))).map fun c=>c.2.2.2 by
         rw [<-iP V hjl,<-hs,hy];simp)
        have hwn:IntKind.i64.wrap (-y)=-y:=by rw [IntKind.wrap_i64];omega
        have HLK:=ae (show ((be V ((aN L (u+1-2)).take j)).map fun c=>c.2.2.2).length<=1000 by rw [List.length_map,cQ,List.length_take];have:=HML.out;omega);clear hs hsm hy hjl
        go_wp2_with (first
         | (go_at_call 112;refine (cz _ _).mono ?_;rintro e w4 ⟨rfl,hx4⟩;have hs4:=hx4.size;have HR4:=ae (HRO.out.ext hx4);have HF4:=ae (HFK.out.ext hx4);have HC4:=ae (HCK.out.ext hx4);have HX4:=ae (HXK.out.trans hx4);clear hx4)
         | (at_builtin;refine aJ rfl _ _ rfl (w.heap.size+2) (.slice a1 n1 p1) _ rfl (HR4.out.ext (Ext.alloc _ _)) _ 1 _ [(-y,1)] rfl (Rats.one' _ _ _ _ _ (by simp)) (by have:=HLK.out;omega) (by simp;omega) ?_;intro v5 w5 ho hg hnear;have HF5:=ae (HF4.out.keptR (Ext.alloc _ _) HR4.out hg);have HC5:=ae (HC4.out.keptR (Ext.alloc _ _) HR4.out hg);have X5:=ae ((HX4.out.trans (Ext.alloc _ _)).grown hg (fun j hj=>by rw [HWS.out];exact (HR4.out.lt j hj).1));obtain ⟨a5,n5,p5,rfl,HN5⟩:=ho.var;have HO5:=ae ho;clear ho hg hnear))
        go_roundg (g2-1)
        case measure=>have:=HJ.out;omega
        case rel=>exact ⟨j+1,a5,n5,p5,ae (by have:=HJ.out;omega),by go_num,rfl,ae (by rw [<-HSN.out];exact HO5.out),HF5,HC5,X5⟩
       ·have hjm':m=j:=by have:=HJ.out;omega
        subst hjm';have HFT:=ae (show (aN L (u+1-2)).take m=aN L (u+1-2) from List.take_of_length_le (by rw [HFM.out];exact Nat.le_refl _));rw [HFT.out] at HRO;have HCF:=ae (om (HF.out.ext HXK.out) (by omega));clear HFK hcB;go_wp2_with fail;refine HCF.out.mono ?_;rintro e w4 ⟨vE,rfl,hE,hx4⟩;obtain ⟨aE0,nE0,cE0,rfl,hnE⟩:=hE.var;have HNE0:=ae (show nE0=k by rw [<-hnE.out,HFL.out]);have HX4:=ae (HXK.out.trans hx4);have HR4:=ae (HRO.out.ext hx4);have HC4:=ae (HCK.out.ext hx4);have HE4:=ae (hE.mono (base':=w.heap.size+2) hszk);have hsz4:=HX4.out.size;rw [HWS.out] at hsz4;clear hE hnE hx4 HCF
        go_wp2_with (first
         | (go_at_call 112;refine (cz _ _).mono ?_;rintro e w5 ⟨rfl,hx5⟩;have hs5:=hx5.size;have HE5:=ae (HE4.out.ext hx5);have HR5:=ae (HR4.out.ext hx5);have HC5:=ae (HC4.out.ext hx5);have HX5:=ae (HX4.out.trans hx5);clear hx5)
         | (at_builtin;refine lE fixE Tryz.infoFix rfl Tryz.underlying71 (by decide) rfl _ _ rfl (w.heap.size+2) (.slice aE0 nE0 cE0) L rfl (HE5.out.ext (Ext.alloc _ _)) _ 1 1 [((u:Int),0,1)] rfl (Slc.lit fixE _ _ _ 1 (by rfl) _ (by rfl) _ (by rfl) (by omega)) (by rw [HFL.out];omega) (by simp;omega) ?_;intro v6 w6 ho hg hnear;have HR6:=ae (show OwnR w6 _ _ _ from bO (HR5.out.ext (Ext.alloc _ _)) (HE5.out.ext (Ext.alloc _ _)) (by decide) hg);have HC6:=ae (show OwnI w6 _ _ _ from bO (HC5.out.ext (Ext.alloc _ _)) (HE5.out.ext (Ext.alloc _ _)) (by decide) hg);have X6:=ae ((HX5.out.trans (Ext.alloc _ _)).grown hg (fun j hj=>by rw [HWS.out];exact (HE5.out.lt j hj).1));obtain ⟨aE,nE,cE,rfl,HNE⟩:=ho.var;have HE6:=ae ho;clear ho hg hnear))
        obtain ⟨EE,hEE⟩:∃ E,E=extE (u+1) L:=⟨_,rfl⟩;have HEL:=ae (show L++[((u:Int),0,1)]=EE by rw [hEE];unfold extE;rw [hlen1])
        have HEM:=ae (show ∀ f ∈ EE,1<=f.1/\f.1<=(u:Int) by
         intro f hf;rw [<-HEL.out] at hf
         rcases List.mem_append.1 hf with h|h
         ·have:=HLB.out f h;omega
         ·rw [List.mem_singleton] at h;subst h;simp only;omega)
        have HEN:=ae (show EE.length=k+1 by rw [<-HEL.out,List.length_append,HFL.out];rfl);have HNEE:=ae (show nE=k+1 by rw [<-HNE.out,HEL.out,HEN.out]);rw [HEL.out] at HE6;have HST:=ae (stOk_ext HGL.out HVL.out (by omega) HVB.out);rw [<-hEE] at HST;have HCE:=ae (gR HVL.out (by omega) HVB.out L);rw [<-hEE] at HCE;have hecap:=HE6.out.slc.hcap;have hemax:=HE6.out.slc.hmax;have HFV:=ae (show (be V (aN L (u+1-2))).length<=1000 by rw [cQ];have:=HML.out;omega);obtain ⟨FC,hFC⟩:∃ F,F=be V (aN L (u+1-2)):=⟨_,rfl⟩;have HFC1:=ae (show aN L (u+1-2)=FC.map (·.1) by rw [hFC];simp [be,Function.comp_def]);rw [HFC1.out] at HC6;rw [<-hFC] at HR6 HCE HFV;have HFC:=ae hFC;clear hEE hFC hlen1;go_wp2_with fail
        go_loopg [11,12,99] (k+1) (fun gk cc rr ii wr=>∃ (i:Nat) (aC:Option Addr) (nC cC:Nat) (aR:Option Addr) (nR cR:Nat),Hid (gk+i=k+1)/\ii=.int .i64 (i:Int)/\cc=.slice aC nC cC/\rr=.slice aR nR cR/\Hid (OwnI wr (w.heap.size+2) (.slice aC nC cC) ((FC++aI V (EE.take i)).map (·.1)))/\Hid (OwnR wr (w.heap.size+2) (.slice aR nR cR) ((FC++aI V (EE.take i)).map fun c=>c.2.2.2))/\Hid (OwnG fixE 79 wr (w.heap.size+2) (.slice aE nE cE) EE)/\Hid ((EE.take i).all (fitC V)=true)/\Hid (Ext W wr))
        case atStart=>exact ⟨0,_,_,_,_,_,_,ae (by omega),rfl,rfl,rfl,ae (by simpa [aI] using HC6.out),ae (by simpa [aI] using HR6.out),HE6,ae rfl,X6⟩
        case round =>
         obtain ⟨g3,h_g3⟩:∃ x,x=gk:=⟨_,rfl⟩;subst h_g3;obtain ⟨wr3,h_wr3⟩:∃ x,x=wr:=⟨_,rfl⟩;subst h_wr3;obtain ⟨i,aC,nC,cC,aR,nR,cR,HI,rfl,rfl,rfl,HOC,HOR,HOE,HOF,HX3⟩:=hrel;have hszr3:=HX3.out.size;rw [HWS.out] at hszr3;by_cases hik:i<k+1
         ·have hine:i<nE:=by rw [HNEE.out];exact hik
          obtain ⟨eb,eoff,⟨c,x,y⟩,hea,hex,hec⟩:=HOE.out.slc.at hine;subst hea;have e0:wr3.cell? ⟨eb,eoff+i*3,none⟩=some (.int .i64 c):=hec 0 _ rfl;have e1:wr3.cell? ⟨eb,eoff+i*3+1,none⟩=some (.int .i64 x):=hec 1 _ rfl;have e2:wr3.cell? ⟨eb,eoff+i*3+2,none⟩=some (.int .i64 y):=hec 2 _ rfl;have hcm:=HEM.out (c,x,y) (List.mem_of_getElem? hex);simp only at hcm;obtain ⟨t,rfl⟩:∃ t:Nat,c=t:=⟨c.toNat,by omega⟩;have htn:t<u+1:=by omega
          obtain ⟨vb,voff,hve,hvc⟩:=HVE.out.at htn;subst hve;obtain ⟨z,hz⟩:∃ z,z=V[t]?.getD 0:=⟨_,rfl⟩;rw [<-hz] at hvc;obtain ⟨p,q',ok,hpq⟩:∃ p q ok,subR (x,y) (z,1)=((p,q),ok):=⟨_,_,_,rfl⟩;have HPQ:=ae hpq;have HPB:=ae (show -1000000000<=p/\p<=1000000000 by have:=mQ (x,y) (z,1);rw [hpq] at this;exact this);have HFIT:=ae (show fitC V ((t:Int),x,y)=ok by unfold fitC;simp only;rw [Int.toNat_natCast,<-hz,hpq])
          have HTW:=ae (show aI V (EE.take i)++twoC (t:Int) (p,q')=aI V (EE.take (i+1)) by
           rw [fD hex];unfold aI;rw [List.flatMap_append];simp only [List.flatMap_cons,List.flatMap_nil,List.append_nil];unfold eA;simp only;rw [Int.toNat_natCast,<-hz,hpq])
          have HXI:=ae hex;clear hec hex hz hpq;go_upto_region 25 with fail;obtain ⟨wb,hwb⟩:∃ x',x'=wr3.alloc (.cells #[.int .i64 (t:Int),.int .i64 x,.int .i64 y] 79):=⟨_,rfl⟩;have HXB:=ae (show Ext wr3 wb by rw [hwb];exact Ext.alloc _ _);have f0:wb.cell? ⟨wr3.heap.size,0,none⟩=some (.int .i64 (t:Int)):=by rw [hwb];simp
          have f1:wb.cell? ⟨wr3.heap.size,1,none⟩=some (.int .i64 x):=by rw [hwb];simp
          have f2:wb.cell? ⟨wr3.heap.size,2,none⟩=some (.int .i64 y):=by rw [hwb];simp
          have hgv:wb.cell? ⟨w.heap.size,1,none⟩=some (.slice (some ⟨vb,voff,none⟩) (u+1) cap):=(HX3.out.trans HXB.out).cellSome HWC.out;have hvt:wb.cell? ⟨vb,voff+t,none⟩=some (.int .i64 z):=(HX3.out.trans HXB.out).cellSome hvc;rw [<-hwb];have hti:(t:Int)<(u:Int)+1:=by omega
          clear hwb e0 e1 e2 hvc;go_upto_region 25 with fail
          go_cut [17,18] (fun sx so wx=>∃ g:Nat,sx=.pointer (some ⟨g,0,none⟩)/\so=.bool ok/\Hid (ah wb wx g p q'))
          case first =>
           have hk2:Ext wb wb.drew:=Ext.drew wb;have hka:Ext wb (wb.alloc (.cells #[.int .i64 0,.int .i64 0] 43)).drew:=(Ext.alloc _ _).trans (Ext.drew _);have HKEEP:=ae (fun (w':World) (h:Ext wb w')=>(⟨h.cellSome f0,h.cellSome f1,h.cellSome f2,h.cellSome hgv,h.cellSome hvt,h⟩:w'.cell? ⟨wr3.heap.size,0,none⟩=some (.int .i64 (t:Int))/\w'.cell? ⟨wr3.heap.size,1,none⟩=some (.int .i64 x)/\w'.cell? ⟨wr3.heap.size,2,none⟩=some (.int .i64 y)/\w'.cell? ⟨w.heap.size,1,none⟩=some (.slice (some ⟨vb,voff,none⟩) (u+1) cap)/\w'.cell? ⟨vb,voff+t,none⟩=some (.int .i64 z)/\Ext wb w'))
           go_region_held3 (fun w'=>w'.cell? ⟨wr3.heap.size,0,none⟩=some (.int .i64 (t:Int))/\w'.cell? ⟨wr3.heap.size,1,none⟩=some (.int .i64 x)/\w'.cell? ⟨wr3.heap.size,2,none⟩=some (.int .i64 y)/\w'.cell? ⟨w.heap.size,1,none⟩=some (.slice (some ⟨vb,voff,none⟩) (u+1) cap)/\w'.cell? ⟨vb,voff+t,none⟩=some (.int .i64 z)/\Ext wb w')
            (first
              | with_reducible exact HKEEP.out _ hk2
              | with_reducible exact HKEEP.out _ hka
              | with_reducible exact HKEEP.out _ ((hk2.setCell (by first|(simp;done)|(simp;omega)) _).setCell (by first|(simp;done)|(simp;omega)) _)
              | with_reducible exact HKEEP.out _ (hk2.trans (Ext.alloc _ _))
              | with_reducible exact HKEEP.out _ (hBB.put _ _).ext)
            (first
              | (go_at_call 112
                 (with_reducible refine (cz _ _).mono ?_)
                 rintro e w7 ⟨rfl,hx_w7⟩
                 first|(with_reducible have hBB:=ah.grow hBB hx_w7)|(with_reducible have hBB:=ah.firstD hx_w7)|(with_reducible have hBB:=ah.laterD hk2 hx_w7)|skip
                 first|(have b0_:=hBB.c0;have b1_:=hBB.c1;have fb_:=hBB.free)|skip
                 have hk2:Ext wb w7:=by first|with_reducible exact hk2.trans hx_w7|with_reducible exact hka.trans hx_w7|with_reducible exact (hk2.trans (Ext.alloc _ _)).trans hx_w7
                 have hk2s:=hk2.size)
              | (go_at_call 177
                 (with_reducible refine (je _ _ _ _ _).mono ?_)
                 rw [HPQ.out];rintro e w8 ⟨rfl,hx_w8⟩
                 first|(with_reducible have hBB:=ah.grow hBB hx_w8)|(with_reducible have hBB:=ah.firstD hx_w8)|(with_reducible have hBB:=ah.laterD hk2 hx_w8)|skip
                 first|(have b0_:=hBB.c0;have b1_:=hBB.c1;have fb_:=hBB.free)|skip
                 have hk2:Ext wb w8:=by first|with_reducible exact hk2.trans hx_w8|with_reducible exact hka.trans hx_w8|with_reducible exact (hk2.trans (Ext.alloc _ _)).trans hx_w8
                 have hk2s:=hk2.size)
              | fail)
           all_goals (go_wp2_with fail;go_meet;first|exact ⟨_,rfl,rfl,ae (hBB.put _ _)⟩|exact ⟨_,rfl,rfl,ae (ah.new hk2 _ _)⟩|exact ⟨_,rfl,rfl,ae (ah.new' hk2 _ _ (by simp))⟩)
          obtain ⟨g,rfl,rfl,HB⟩:=hcut;have XC:=ae ((HX3.out.trans HXB.out).trans HB.out.ext);have HOCc:=ae ((HOC.out.ext HXB.out).ext HB.out.ext);have HORc:=ae ((HOR.out.ext HXB.out).ext HB.out.ext);have HOEc:=ae ((HOE.out.ext HXB.out).ext HB.out.ext);have hg0:=HB.out.ext.cellSome f0;have hszc:=XC.out.size;rw [HWS.out] at hszc;have HGE:=ae (show wr3.heap.size<g by have:=HB.out.ge;have:=World.block_lt_of_cell? _ _ f0;simp only at this;omega);clear f0 f1 f2 hgv hvt hti;cases ok
          ·have HG:=ae (show stOk (q:Int) V L=false from by
            rw [HST.out,List.all_eq_false];exact ⟨_,List.mem_of_getElem? HXI.out,by rw [HFIT.out];simp⟩)
           have hrA:=HRB.out _ XC.out;have hr0:=LpO.boxc0 hrA;have hr1:=LpO.boxc1 hrA;have hr2:=LpO.boxc2 hrA;have hrf:=LpO.boxf hrA;clear hrA;go_wp2_with fail;refine bodyPost_ret (v:=.tuple #[.agg #[.slice none 0 0,.slice none 0 0,.slice none 0 0],.bool false]) (by simp [results,Tryz.results133,go_sem,hr0,hr1,hr2]) rfl (HEND.out _ XC.out HG.out _ rfl)
          ·have HTK:=ae (show (EE.take (i+1)).all (fitC V)=true by rw [fD HXI.out,List.all_append,HOF.out];simp [HFIT.out]);have HLC:=ae (show ((FC++aI V (EE.take i)).map (·.1)).length<=3000000 by rw [List.length_map,List.length_append,dP,List.length_take];have:=HFV.out;have:=HEN.out;omega);have HLR:=ae (show ((FC++aI V (EE.take i)).map fun c=>c.2.2.2).length<=3000000 by rw [List.length_map,List.length_append,dP,List.length_take];have:=HFV.out;have:=HEN.out;omega);have HSC:=ae (show (FC++aI V (EE.take i)).map (·.1)++[(t:Int),(t:Int)]=(FC++aI V (EE.take (i+1))).map (·.1) by rw [<-HTW.out];exact mj _ FC _ (twoC (t:Int) (p,q')));have HSR:=ae (show ((FC++aI V (EE.take i)).map fun c=>c.2.2.2)++[(p,q'),(-p,q')]=(FC++aI V (EE.take (i+1))).map fun c=>c.2.2.2 by rw [<-HTW.out];exact mj _ FC _ (twoC (t:Int) (p,q')));have HBC:=ae (HB.out.cell)
           go_wp2_with (first
            | (at_builtin;go_loud (refine bw rfl _ _ rfl (w.heap.size+2) (.slice aC nC cC) _ rfl (HOCc.out.ext (Ext.alloc _ _)) _ 2 _ [(t:Int),(t:Int)] rfl (Ints.litM [(t:Int),(t:Int)] _ (by rfl) (by rfl) (by rfl) (by simp)) (Nat.le_trans (Nat.add_le_add_right HLC.out 2) (by decide)) (by simp;omega) ?_;intro v9 w9 ho hg hnear;have HR9:=ae (HORc.out.keptI (Ext.alloc _ _) HOCc.out hg);have HE9:=ae (show OwnG fixE 79 w9 _ _ _ from HOEc.out.grownI (Ext.alloc _ _) HOCc.out (by decide) hg);have X9:=ae ((XC.out.trans (Ext.alloc _ _)).grown hg (fun j hj=>by rw [HWS.out];exact (HOCc.out.lt j hj).1));have HB9:=ae (show w9.heap[g]?=_ from (hg.block g (by have:=HB.out.lt;simp;omega) (an HOCc.out HBC.out (by decide))).trans ((bz _ _ _ HB.out.lt).trans HBC.out));obtain ⟨a9,n9,p9,rfl,HN9⟩:=ho.var;have HC9:=ae ho;clear ho hg hnear)))
           have hb0:w9.cell? ⟨g,0,none⟩=some (.int .i64 p):=(ai HB9.out).1;have hb1:w9.cell? ⟨g,1,none⟩=some (.int .i64 q'):=(ai HB9.out).2.1;have hpb:=HPB.out;have HNE9:=ae (show some g ≠ (Value.slice aR nR cR).ownBlock from fun e=>by have:=(HOR.out.lt g e.symm).2;have:=HGE.out;omega);have hk1:Ext W w9:=X9.out;have hk2:Ext w9 w9.drew:=Ext.drew w9;have hsz9:=X9.out.size;rw [HWS.out] at hsz9;have HKEEP:=ae (fun (w':World) (h:Ext W w') (h0:w'.cell? ⟨g,0,none⟩=some (.int .i64 p)) (h1:w'.cell? ⟨g,1,none⟩=some (.int .i64 q'))=>(⟨h0,h1,h⟩:w'.cell? ⟨g,0,none⟩=some (.int .i64 p)/\w'.cell? ⟨g,1,none⟩=some (.int .i64 q')/\Ext W w'));clear hg0
           go_region_held3 (fun w'=>w'.cell? ⟨g,0,none⟩=some (.int .i64 p)/\w'.cell? ⟨g,1,none⟩=some (.int .i64 q')/\Ext W w')
            (first
              | with_reducible exact HKEEP.out _ (hk1.trans hk2) (hk2.cellSome hb0) (hk2.cellSome hb1)
              | with_reducible exact HKEEP.out _ (hk1.trans (hk2.trans (Ext.alloc _ _))) ((hk2.trans (Ext.alloc _ _)).cellSome hb0) ((hk2.trans (Ext.alloc _ _)).cellSome hb1)
              | with_reducible exact HKEEP.out _ hk5 hc5 hc6)
            (first
              | (go_at_call 137
                 (with_reducible refine (dM _ _ _ (by omega) (by omega)).mono ?_)
                 rintro e w10 ⟨rfl,hx10⟩;have hk2:Ext w9 w10:=hk2.trans hx10
                 have hs10:=hk2.size)
              | (refine bH _ (by rfl) ?_
                 refine dd _ _ (by rfl) (w.heap.size+2) (.slice aR nR cR) _ (by rfl) (HR9.out.ext (hk2.trans (Ext.alloc _ _))) _ 2 2 [(p,q'),(-p,q')] (by rfl) (Rats.two _ _ _ _ _ _ (by rfl)) (Nat.le_trans (Nat.add_le_add_right HLR.out 2) (by decide)) (by simp;omega) ?_;intro v11 w11 ho hg hnear;have hc5:=hg.cell ((hk2.trans (Ext.alloc _ _)).cellSome hb0) HNE9.out;have hc6:=hg.cell ((hk2.trans (Ext.alloc _ _)).cellSome hb1) HNE9.out;have HC11:=ae (HC9.out.keptR (hk2.trans (Ext.alloc _ _)) HR9.out hg);have HE11:=ae (HE9.out.grownR (hk2.trans (Ext.alloc _ _)) HR9.out (by decide) hg);have hk5:Ext W w11:=(hk1.trans (hk2.trans (Ext.alloc _ _))).grown hg (fun j hj=>by rw [HWS.out];exact (HR9.out.lt j hj).1);obtain ⟨a11,n11,p11,rfl,HN11⟩:=ho.var;have HR11:=ae ho
                 clear ho hg hnear)
              | fail)
           have X11:=ae hk5;clear hk1 hk5 hc5 hc6;go_wp2_with fail
           go_roundg (g3-1)
           case measure=>have:=HI.out;omega
           case rel=>exact ⟨i+1,a9,n9,p9,a11,n11,p11,ae (by have:=HI.out;omega),by go_num,rfl,rfl,ae (by rw [<-HSC.out];exact HC11.out),ae (by rw [<-HSR.out];exact HR11.out),HE11,HTK,X11⟩
         ·have hik':i=k+1:=by have:=HI.out;omega
          subst hik';have HTE:=ae (show EE.take (k+1)=EE from List.take_of_length_le (by rw [HEN.out];exact Nat.le_refl _));rw [HTE.out] at HOC HOR HOF;have HYES:=ae (show stOk (q:Int) V L=true by rw [HST.out,HOF.out]);obtain ⟨CI,hCI⟩:∃ x,x=(FC++aI V EE).map (·.1):=⟨_,rfl⟩;have HRC:=ae (show ((FC++aI V EE).map fun c=>c.2.2.2)=stC V L by rw [HCE.out];rfl);have HCIL:=ae (show CI.length=m+2*(k+1) by rw [hCI,List.length_map,List.length_append,dP,HEN.out,HFC.out,cQ,HFM.out])
          have HROWS:=ae (show negM m CI.length q (memM q CI)=(List.range q).map (rowC (cJ V L) q) by
           have:=neg_all V (aN L (u+1-2)) EE q;rw [HFM.out,<-HFC.out,<-hCI,HCE.out] at this
           exact this)
          have HLAST:=ae (show List.replicate m 1++List.replicate (2*(k+1)) 0=rowC (cJ V L) q q by
           have:=ma V (aN L (u+1-2)) EE q;rw [HFM.out,<-HFC.out,HCE.out,HEN.out] at this
           exact this)
          have HCB:=ae (show ∀ r:Nat,CI[r]?.getD 0<=9223372036854775807 by
           intro r;by_cases hr:r<CI.length
           ·rw [List.getElem?_eq_getElem hr];have hm:=List.getElem_mem hr;simp only [hCI] at hm;obtain ⟨c,hc,hce⟩:=List.mem_map.1 hm;have hc2:=lH HVL.out (by omega) (fun f hf=>by have:=HLB.out f hf;omega) c (by rw [<-HCE.out];exact hc);simp only [Option.getD_some];have e:CI[r]=c.1:=by simp only [hCI];exact hce.symm
            rw [e];omega
           ·rw [List.getElem?_eq_none (by omega)];simp)
          rw [<-hCI] at HOC;rw [HRC.out] at HOR;have HNC:=ae (show nC=m+2*(k+1) by obtain ⟨_,_,he,_⟩:=HOC.out.form;simp only [Value.slice.injEq] at he;rw [he.2.1,HCIL.out]);have HMEM:=ae (pD (w:=wr3) q h5 HOC.out.ints HCB.out (by rw [HNC.out];omega));have hcA:=HX3.out.cellSome HWD.out;have hnlt:¬ ((k:Int)+1<(nE:Int)):=by have:=HNEE.out;omega
          clear hCI;go_wp2_with fail;refine HMEM.out.mono ?_;rintro e w12 ⟨⟨vA,rfl,vs,hov,hrows⟩,hx12⟩;obtain ⟨aA,nA,cA,rfl,hna⟩:=hov.var;have hnq:nA=q:=by rw [<-hna.out,hrows.len,jg]
          subst hnq;have HM12:=ae (show Mat w12 (w.heap.size+2) aA nA cA vs (memM nA CI) from ⟨hov.mono' hszr3,⟨hrows.len,fun i hi=>(hrows.row i hi).mono hszr3,hrows.apart⟩⟩);have HR12:=ae (HOR.out.ext hx12);have X12:=ae (HX3.out.trans hx12);have hacap:=HM12.out.cap.1;have hamax:=HM12.out.cap.2;clear hov hrows hna hx12 hcA HMEM;go_wp2_with fail
          go_loopg [139] nA (fun gk ii wr=>∃ i:Nat,Hid (gk+i=nA)/\ii=.int .i64 (i:Int)/\Hid (Mat wr (w.heap.size+2) aA nA cA vs (negM m CI.length i (memM nA CI)))/\Hid (OwnR wr (w.heap.size+2) (.slice aR nR cR) (stC V L))/\Hid (Ext W wr))
          case atStart=>exact ⟨0,ae (by omega),rfl,ae (by rw [pJ];exact HM12.out),HR12,X12⟩
          case round =>
           obtain ⟨g4,h_g4⟩:∃ x,x=gk:=⟨_,rfl⟩;subst h_g4;obtain ⟨wr4,h_wr4⟩:∃ x,x=wr:=⟨_,rfl⟩;subst h_wr4;obtain ⟨i,HI4,rfl,HM4,HR4',HX4'⟩:=hrel;have hsz4':=HX4'.out.size;rw [HWS.out] at hsz4';by_cases hin:i<nA
           ·obtain ⟨G,rfl,_,hGl,_⟩:=HM4.out.outer (by omega);have hil:i<(memM nA CI).length:=by rw [jg];exact hin
            have hrl:((negM m CI.length i (memM nA CI))[i]?.getD []).length=m+2*(k+1):=by rw [nO hil,jh hin,eC,HCIL.out]
            obtain ⟨gr,cr,hvr,hcr,hor,hne,hbr,hgrl,hncr,hcrm⟩:=HM4.out.row hin hrl (by omega);have HVR:=ae hvr;clear hvr hor hrl;go_wp2_with fail
            go_loopg [22] (m+2*(k+1)) (fun gk jj wr=>∃ t:Nat,Hid (gk+t=m+2*(k+1))/\jj=.int .i64 ((m+1+2*t:Nat):Int)/\Hid (Mat wr (w.heap.size+2) (some ⟨G,0,none⟩) nA cA vs ((negM m CI.length i (memM nA CI)).set i (cn m (m+1+2*t) (memR CI i))))/\Hid (OwnR wr (w.heap.size+2) (.slice aR nR cR) (stC V L))/\Hid (Ext W wr))
            case atStart=>exact ⟨0,ae (by omega),by simp,ae (by
             rw [nt];have e:(negM m CI.length i (memM nA CI)).set i (memR CI i)=negM m CI.length i (memM nA CI):=by
              have h0:=nO (m:=m) (N:=CI.length) hil;rw [jh hin] at h0
              apply List.ext_getElem (by simp)
              intro r h1 h2;rw [List.getElem_set]
              split
              ·next er=>subst er;rw [List.getElem?_eq_getElem h2] at h0;simpa using h0.symm
              ·rfl
             rw [e];exact HM4.out),HR4',HX4'⟩
            case round =>
             obtain ⟨g5,h_g5⟩:∃ x,x=gk:=⟨_,rfl⟩;subst h_g5;obtain ⟨wr5,h_wr5⟩:∃ x,x=wr:=⟨_,rfl⟩;subst h_wr5;obtain ⟨t,HT5,rfl,HM5,HR5',HX5'⟩:=hrel;have hsz5':=HX5'.out.size;rw [HWS.out] at hsz5';by_cases hjl:m+1+2*t<m+2*(k+1)
             ·obtain ⟨j,hj⟩:∃ j,j=m+1+2*t:=⟨_,rfl⟩;have hrow5:((negM m CI.length i (memM nA CI)).set i (cn m (m+1+2*t) (memR CI i)))[i]?.getD []=cn m (m+1+2*t) (memR CI i):=by
               rw [List.getElem?_set_self (by rw [negM_len];exact hil)];rfl
              obtain ⟨gr',cr',hvr',hcr',hor',hne',hbr',hgrl',hncr',hcrm'⟩:=HM5.out.row (n:=m+2*(k+1)) hin (by rw [hrow5,pL,eC,HCIL.out]) (by omega);have hsame:=HVR.out.symm.trans hvr';simp only [Value.slice.injEq,Option.some.injEq,Addr.mk.injEq,and_true,true_and] at hsame;have hor2:=hor';rw [<-hsame.1,<-hsame.2,hrow5] at hor2;have hcell:=hor2.outS.2.2.2 (m+1+2*t) hjl;have hfz:=hor2.outS.2.2.1 (m+1+2*t);rw [negTo_at (by rw [eC,HCIL.out];exact hjl),if_neg (by omega)] at hcell;obtain ⟨x,hx⟩:∃ x,x=(memR CI i)[m+1+2*t]?.getD 0:=⟨_,rfl⟩;have hxb:=memR_bd CI i (m+1+2*t);rw [<-hx] at hcell hxb;have hwx:IntKind.i64.wrap (-x)=-x:=by rw [IntKind.wrap_i64];omega
              have HM6:=ae (show Mat (wr5.setCell ⟨gr,m+1+2*t,none⟩ (.int .i64 (-x))) (w.heap.size+2) (some ⟨G,0,none⟩) nA cA vs ((negM m CI.length i (memM nA CI)).set i (cn m (m+1+2*(t+1)) (memR CI i))) by
               have:=HM5.out.inrow hin HVR.out (m+1+2*t) (-x);rw [hrow5,hx,oH (by rw [eC,HCIL.out];exact hjl),List.set_set] at this
               rw [hx];exact this)
              have HR6':=ae (show OwnR (wr5.setCell ⟨gr,m+1+2*t,none⟩ (.int .i64 (-x))) (w.heap.size+2) (.slice aR nR cR) (stC V L) from
               HR5'.out.keep fun b hb=>heap_setCell_other _ _ _ _ fun e=>au (by decide) HR5'.out hor2 b hb (by rw [e];rfl))
              have HX6':=ae (HX5'.out.store (b:=gr) (m+1+2*t) (by rw [HWS.out];exact hbr) (.int .i64 (-x)));clear hor' hor2 hrow5 hvr' hcr' hne' hbr' hgrl' hncr' hcrm' hsame hx;rw [<-hj] at hcell hfz HM6 HR6' HX6' hjl;have HJ6:=ae hj;rw [<-hj];clear hj;go_wp2_with fail
              go_roundg (g5-1)
              case measure=>have:=HT5.out;have:=HJ6.out;omega
              case rel=>exact ⟨t+1,ae (by have:=HT5.out;have:=HJ6.out;omega),by have:=HJ6.out;go_num,HM6,HR6',HX6'⟩
             ·have hnlt2:¬ (((m+1+2*t:Nat):Int)<((m+2*(k+1):Nat):Int)):=by omega
              have HM7:=ae (show Mat wr5 (w.heap.size+2) (some ⟨G,0,none⟩) nA cA vs (negM m CI.length (i+1) (memM nA CI)) by
               have h1:=pI (m:=m) (N:=CI.length) hil;rw [jh hin] at h1;rw [<-h1];have h2:=pK (m:=m) (j:=m+1+2*t) (r:=memR CI i) (by rw [eC,HCIL.out];omega);rw [eC] at h2
               rw [<-h2];exact HM5.out)
              obtain ⟨j,hj⟩:∃ j,j=m+1+2*t:=⟨_,rfl⟩;obtain ⟨N,hN⟩:∃ j,j=m+2*(k+1):=⟨_,rfl⟩;go_wp2_with fail
              go_roundg (g4-1)
              case measure=>have:=HI4.out;omega
              case rel=>exact ⟨i+1,ae (by have:=HI4.out;omega),by go_num,HM7,HR5',HX5'⟩
           ·have hin':nA=i:=by have:=HI4.out;omega
            subst hin';rw [HROWS.out] at HM4;have HLB0:=ae (kF HYES.out);obtain ⟨d,hd⟩:∃ d,d=2*(k+1):=⟨_,rfl⟩;have hncd:(nC:Int)-(m:Int)=(d:Int):=by have:=HNC.out;omega
            have HD:=ae hd;have HT1:=ae (ku (w:=wr4) m 1 (by omega));have HT2:=ae (fun (w13:World)=>ku (w:=w13) d 0 (by omega));have hnc0:(0:Int)<=(nC:Int)-(m:Int):=by omega
            clear hd;go_wp2_with fail;refine HT1.out.mono ?_;rintro e w13 ⟨⟨v13,rfl,ho13⟩,hx13⟩;obtain ⟨a13,n13,c13,rfl,hn13⟩:=ho13.var;have HO13:=ae ho13;have HX13:=ae hx13;have HN13:=ae hn13.out;clear ho13 hx13 hn13 HT1;go_wp2_with fail;rw [show wrap64 (d:Int)=(d:Int) by unfold wrap64;have:=HD.out;omega];refine (HT2.out w13).mono ?_;rintro e w14 ⟨⟨v14,rfl,ho14⟩,hx14⟩;obtain ⟨a14,n14,c14,rfl,hn14⟩:=ho14.var;have HO14:=ae ho14;have HX14:=ae hx14;have HN14:=ae hn14.out;have HLEN:=ae (show (List.replicate m (1:Int)).length+n14<=1099511627776 by rw [<-HN14.out,List.length_replicate,List.length_replicate];have:=HD.out;omega);have hs13:=HX13.out.size;have hs14:=HX14.out.size;clear ho14 hx14 hn14 HT2
            go_wp2_with (first
             | (at_builtin;go_loud (refine bw rfl _ _ rfl wr4.heap.size (.slice a13 n13 c13) _ rfl (HO13.out.ext HX14.out) _ n14 _ _ rfl HO14.out.ints HLEN.out (by omega) ?_;intro v15 w15 ho hg hnear;have hx15:=((HX13.out.trans HX14.out).grown hg (fun j hj=>(HO13.out.lt j hj).1));obtain ⟨a15,n15,c15,rfl,HN15⟩:=ho.var;have HO15:=ae ho;have HX15:=ae hx15;clear ho hg hnear hx15)))
            obtain ⟨lr,hlr⟩:∃ l,l=List.replicate m (1:Int)++List.replicate d 0:=⟨_,rfl⟩;have HLR0:=ae (show lr=rowC (cJ V L) nA nA by rw [hlr,HD.out];exact HLAST.out);rw [<-hlr] at HO15;have hX15:Ext W w15:=HX4'.out.trans HX15.out;have hS:St3 W w15 (w.heap.size+2) w15.heap.size (.slice aA nA cA) vs (vs++[.slice a15 n15 c15]) ((List.range nA).map (rowC (cJ V L) nA)++[lr]) (.slice aR nR cR) (stC V L) :=
             St3.start HM4.out HX15.out HO15.out hsz4' (HR4'.out.ext HX15.out) hX15
            have hsz15:=hX15.size;rw [HWS.out] at hsz15;have HVSL:=ae (show vs.length<=1099511627775 by rw [HM4.out.vlen];omega);have HT3:=ae (fun (w16:World)=>ku (w:=w16) nA 0 (by omega));have HKEEP:=ae (fun (w':World) (h:Ext W w')=>(h.cellSome HWD.out:w'.cell? ⟨w.heap.size,0,none⟩=some (.int .i64 (nA:Int))))
            have HKST:=ae (fun (w':World) (h:Ext W w') (a b c:Value)=>(show (((w'.setCell ⟨w.heap.size+1,0,none⟩ a).setCell ⟨w.heap.size+1,1,none⟩ b).setCell ⟨w.heap.size+1,2,none⟩ c).cell? ⟨w.heap.size,0,none⟩=some (.int .i64 (nA:Int)) from
             (World.cell?_of_block (a:=⟨w.heap.size,0,none⟩) (by
               show (((w'.setCell ⟨w.heap.size+1,0,none⟩ a).setCell ⟨w.heap.size+1,1,none⟩ b).setCell ⟨w.heap.size+1,2,none⟩ c).heap[w.heap.size]?=w'.heap[w.heap.size]?
               rw [heap_setCell_other _ _ _ _ (by simp),heap_setCell_other _ _ _ _ (by simp),heap_setCell_other _ _ _ _ (by simp)])).trans (HKEEP.out w' h)))
            have HNA:=ae (fun (n:Nat) (hn:w15.heap.size<=n)=>(show some n ≠ (Value.slice aA nA cA).ownBlock from fun e=>by have:=(hS.out.lt n e.symm).2;omega));have HB2:=ae (show W.heap.size<=w.heap.size+2 by rw [HWS.out];exact Nat.le_refl _);have HZW:=ae (show W.heap.size<=w15.heap.size from hX15.size);have e0:Ext w15 w15.drew:=Ext.drew _;have e1:Ext w15 (w15.alloc (.cells #[.slice a15 n15 c15] 24)).drew:=(Ext.alloc _ _).trans (Ext.drew _);have e2:Ext w15 (w15.alloc (.cells #[.int .i64 1] 3)).drew:=(Ext.alloc _ _).trans (Ext.drew _);have e12:Ext w15 ((w15.alloc (.cells #[.slice a15 n15 c15] 24)).alloc (.cells #[.int .i64 1] 3)).drew:=((Ext.alloc _ _).trans (Ext.alloc _ _)).trans (Ext.drew _);have e21:Ext w15 ((w15.alloc (.cells #[.int .i64 1] 3)).alloc (.cells #[.slice a15 n15 c15] 24)).drew:=((Ext.alloc _ _).trans (Ext.alloc _ _)).trans (Ext.drew _);have b12:((w15.alloc (.cells #[.slice a15 n15 c15] 24)).alloc (.cells #[.int .i64 1] 3)).drew.cell? ⟨w15.heap.size+1,0,none⟩=some (.int .i64 1):=by simp
            have b21:((w15.alloc (.cells #[.int .i64 1] 3)).alloc (.cells #[.slice a15 n15 c15] 24)).drew.cell? ⟨w15.heap.size,0,none⟩=some (.int .i64 1):=by simp
            clear hlr
            go_region_held3 (fun w'=>w'.cell? ⟨w.heap.size,0,none⟩=some (.int .i64 (nA:Int)))
             (first
               | with_reducible exact HKEEP.out _ (hS.ext.trans e0)
               | with_reducible exact HKEEP.out _ (hS.ext.trans e1)
               | with_reducible exact HKEEP.out _ (hS.ext.trans e2)
               | with_reducible exact HKEEP.out _ (hS.ext.trans e12)
               | with_reducible exact HKEEP.out _ (hS.ext.trans e21)
               | with_reducible exact HKEEP.out _ hS.ext
               | with_reducible exact HKEEP.out _ (hS.ext.trans (Ext.alloc _ _))
               | with_reducible exact HKST.out _ hS.ext _ _ _)
             (first
               | (go_at_call 196
                  (with_reducible refine (HT3.out _).mono ?_)
                  rintro e w17 ⟨⟨vT,rfl,hoT⟩,hxT⟩;obtain ⟨aT,nT,cT,rfl,hnT⟩:=hoT.var;have hzz:=hS.hz;have HT:=ae (hoT.mono (base':=w15.heap.size) (by first|exact hzz|(simp;omega)))
                  first
                   | (with_reducible have hS:=hS.more hxT)
                   | (with_reducible have hS:=hS.more ((Ext.alloc _ _).trans hxT))
                  first
                   | (with_reducible have hb2:=hxT.cellSome hb2)
                   | (have hb2:w17.cell? ⟨wA.heap.size,0,none⟩=some (.int .i64 1):=hxT.cellSome (by simp;done))
                   | skip
                  have hs17:=hS.ext.size
                  clear hoT hnT hxT)
               | (refine bH _ (by rfl) ?_
                  refine dZ _ _ (by rfl) (w.heap.size+2) (.slice aA nA cA) vs (by rfl) (by with_reducible exact hS.out.ext e1) _ _ 1 (by rfl) (by simp;rfl) (by rfl) HVSL.out (by simp;omega) ?_;intro v16 wA ho hg hnear;have hS:=hS.push e1 hg ho HB2.out;obtain ⟨a16,n16,c16,rfl,HN16⟩:=ho.var;have hs16:=hS.ext.size
                  clear ho hg hnear)
               | (refine bH _ (by rfl) ?_
                  refine dZ _ _ (by rfl) (w.heap.size+2) (.slice aA nA cA) vs (by rfl) (by with_reducible exact hS.out.ext e12) _ _ 1 (by rfl) (by simp;rfl) (by rfl) HVSL.out (by simp;omega) ?_;intro v16 wA ho hg hnear;have hb2:=hg.cell b12 (HNA.out _ (Nat.le_succ _));have hS:=hS.push e12 hg ho HB2.out;obtain ⟨a16,n16,c16,rfl,HN16⟩:=ho.var;have hs16:=hS.ext.size
                  clear ho hg hnear)
               | (refine bH _ (by rfl) ?_
                  refine dZ _ _ (by rfl) (w.heap.size+2) (.slice aA nA cA) vs (by rfl) (by with_reducible exact hS.out.ext e21) _ _ 1 (by rfl) (by simp;rfl) (by rfl) HVSL.out (by simp;omega) ?_;intro v16 wA ho hg hnear;have hb2:=hg.cell b21 (HNA.out _ (Nat.le_refl _));have hS:=hS.push e21 hg ho HB2.out;obtain ⟨a16,n16,c16,rfl,HN16⟩:=ho.var;have hs16:=hS.ext.size
                  clear ho hg hnear)
               | (refine bH _ (by rfl) ?_
                  refine bG _ _ (by rfl) w15.heap.size (.slice aT nT cT) (List.replicate nA 0) (by rfl) (by with_reducible exact HT.out) _ 1 _ [(1:Int)] (by rfl) (Ints.ofCell hb2) (by simp;omega) hS.hz ?_;intro v18 wZ ho hg hnear;have hS:=hS.growT (Ext.refl _) HT.out hg HZW.out;obtain ⟨a18,n18,c18,rfl,HN18⟩:=ho.var;have HZ:=ae ho;have hs18:=hS.ext.size;have hgz:=HKEEP.out _ hS.ext;have hr0:=LpO.boxc0 (HRB.out _ hS.ext);have hr1:=LpO.boxc1 (HRB.out _ hS.ext);have hr2:=LpO.boxc2 (HRB.out _ hS.ext);have hrf:=LpO.boxf (HRB.out _ hS.ext)
                  clear ho hg hnear)
               | (refine bH _ (by rfl) ?_
                  refine bG _ _ (by rfl) w15.heap.size (.slice aT nT cT) (List.replicate nA 0) (by rfl) (HT.out.ext (Ext.alloc _ _)) _ 1 _ [(1:Int)] (by rfl) (Ints.oneS w17 _ _ _ (by rfl)) (by simp;omega) (by have:=hS.hz;simp;omega) ?_;intro v18 wZ ho hg hnear;have hS:=hS.growT (Ext.alloc _ _) (HT.out.ext (Ext.alloc _ _)) hg HZW.out;obtain ⟨a18,n18,c18,rfl,HN18⟩:=ho.var;have HZ:=ae ho;have hs18:=hS.ext.size;have hgz:=HKEEP.out _ hS.ext;have hr0:=LpO.boxc0 (HRB.out _ hS.ext);have hr1:=LpO.boxc1 (HRB.out _ hS.ext);have hr2:=LpO.boxc2 (HRB.out _ hS.ext);have hrf:=LpO.boxf (HRB.out _ hS.ext)
                  clear ho hg hnear)
               | fail)
            all_goals
             have HS:=ae hS;clear hS hX15 e0 e1 e2 e12 e21 b12 b21 hgz
             try clear hb2
             go_wp2_with fail;refine bodyPost_ret (v:=.tuple #[.agg #[.slice a16 n16 c16,.slice a18 n18 c18,.slice aR nR cR],.bool true]) (by simp [results,Tryz.results133,go_sem,hr0,hr1,hr2]) rfl ⟨⟨_,_,_,_,by rw [HYES.out],(((((OwnV.on HS.out.out).set (by simp) _).set (by simp) _).set (by simp) _).here).mono' (by omega),?_,?_,?_,?_⟩,?_⟩
             ·rw [HLB0.out.1,Int.toNat_natCast];have hA:(List.range nA).map (rowC (cJ V L) nA)++[lr]=stA nA V L:=by unfold stA;rw [List.range_succ,List.map_append,HLR0.out];rfl
              rw [<-hA];exact (((((bj.on HS.out.rows).set (by simp) _).set (by simp) _).set (by simp) _).here).mono' (by omega)
             ·rw [HLB0.out.2.1,Int.toNat_natCast,<-pR];exact (((((OwnI.on HZ.out).set (by simp;omega) _).set (by simp;omega) _).set (by simp;omega) _).here).mono (by omega)
             ·rw [HLB0.out.2.2];exact (((((OwnR.on HS.out.c).set (by simp) _).set (by simp) _).set (by simp) _).here).mono (by omega)
             ·exact fun i k hi hk hk'=>by
               have h1:=HS.out.top i k (by rw [<-HS.out.rows.len];exact hi) hk;have h2:=(HZ.out.lt k hk').1;omega
             ·exact (((HX0.out.trans HS.out.ext).store 0 (by omega) _).store 1 (by omega) _).store 2 (by omega) _
theorem oa (e:Nat->List Int->List Int->List Int) (M:List (List Int)):∀ n,(runM e M n).2<=n
 | 0=>Nat.le_refl _
 | n+1=>by
   have ih:=oa e M n;unfold runM colM
   split
   ·show (runM e M n).2+1<=n+1;omega
   ·omega
theorem rankI_le {p:Int} (h:1<=p) (l:List Int):dX p l<=p:=by
 unfold dX
 split
 ·have:=oa bJ (l.map (digR p.toNat)) p.toNat;omega
 ·omega
def bQ (q:Nat) (V:List Int) (L:List (Int × Int × Int)):LpR:=bV aK (stA q V L) (stB q) (stC V L)
def newF (fr:List Int) (r:LpR) (k:Nat):List (Int × Int × Int):=((List.range k).filter fun j=>decide (0<(r.X[j]?.getD (0,0)).1)).map fun j=>(fr[j]?.getD 0,-r.value.1,r.value.2)
theorem kY (fr:List Int) (r:LpR):newF fr r 0=[]:=rfl
theorem gm (fr:List Int) (r:LpR) (k:Nat):newF fr r (k+1)=newF fr r k++if 0<(r.X[k]?.getD (0,0)).1 then [(fr[k]?.getD 0,-r.value.1,r.value.2)] else []:=by
 unfold newF;rw [List.range_succ,List.filter_append,List.map_append]
 congr 1
 by_cases h:0<(r.X[k]?.getD (0,0)).1
 ·simp [h]
 ·simp [h]
def ptN (q:Nat) (r:LpR):List (Int × Int):=(r.Y.take q).map negR
def frN (V:List Int) (L:List (Int × Int × Int)):List Int:=aN L (V.length-2)
def cV (V:List Int) (L:List (Int × Int × Int)) (r:LpR):List (Int × Int × Int):=L++newF (frN V L) r (frN V L).length
def dF (p:Int) (V:List Int) (L:List (Int × Int × Int)):Bool:=decide (dX p (((V.length:Int)-1) :: L.map (·.1))=p)
structure NucR where
 ok:Bool
 pt:List (Int × Int)
 st:List (Int × Int × Int)
 rounds:Nat
def NucR.no:NucR:=⟨false,[],[],0⟩
def nucF (p:Int) (V:List Int):Nat->List (Int × Int × Int)->Nat->NucR
 | 0,_,_=>NucR.no
 | f+1,L,k =>
   if stOk p V L=true/\(bQ p.toNat V L).status=1 then
    (if dF p V (cV V L (bQ p.toNat V L))=true then ⟨true,ptN p.toNat (bQ p.toNat V L),cV V L (bQ p.toNat V L),k+1⟩
    else nucF p V f (cV V L (bQ p.toNat V L)) (k+1))
   else NucR.no
def nucR (p:Int) (V:List Int):NucR :=
 if bL p V=true then (if p=1 then ⟨true,[(dS p V,1)],[],0⟩ else nucF p V ((frN V []).length+1) [] 0) else NucR.no
theorem mT (X:List (Int × Int)) (row:Nat->Int) (m:Nat) (h0:∀ j,m<=j->row j=0) (hn:∀ j,j<m->row j=1) (hx:∀ j,j<m->val (X[j]?.getD (0,0))<=0):∀ N,sumN (fun j=>((row j:Int):Rat)*val (X[j]?.getD (0,0))) N<=0
 | 0=>by simp [sumN]
 | N+1=>by
   have ih:=mT X row m h0 hn hx N;simp only [sumN];by_cases h:N<m
   ·have:=hx N h;rw [hn N h];have e:((1:Int):Rat)=1:=by exact_mod_cast rfl
    rw [e]
    grind
   ·rw [h0 N (by omega)];have e:((0:Int):Rat)=0:=by exact_mod_cast rfl
    rw [e]
    grind
theorem oU (l:List Int) (j:Nat):vrow (aw l) j=((l[j]?.getD 0:Int):Rat):=by
 unfold vrow;by_cases h:j<l.length
 ·rw [lD h,eH]
 ·rw [List.getElem?_eq_none (by rw [fE];omega),List.getElem?_eq_none (by omega)]
  show val (0,0)=((0:Int):Rat);unfold val;grind
theorem fG {p:Int} {V:List Int} (h:bL p V=true):1<=V.length/\V.length<=32/\p=(p.toNat:Int)/\1<=p.toNat/\p.toNat<=5/\∀ y ∈ V,-500<=y/\y<=500:=by
 obtain ⟨n,rfl,h1,h5,hl,_,hV⟩:=dG h;have e:(n:Int).toNat=n:=by omega
 rw [e,hl];refine ⟨?_,?_,rfl,h1,h5,hV⟩
 ·exact (eX n h5).1
 ·exact (eX n h5).2
theorem fC {p:Int} {V:List Int} {L:List (Int × Int × Int)} (h:stOk p V L=true):bL p V=true/\2<=p/\ordX L ((V.length:Int)-2) L.length=true/\0<(frN V L).length:=by
 obtain ⟨h1,_⟩:=both h;obtain ⟨h2,h3⟩:=both h1;obtain ⟨h4,h5⟩:=both h3;obtain ⟨h6,h7⟩:=both h5;exact ⟨h2,of_decide_eq_true h4,h6,of_decide_eq_true h7⟩
theorem pM {p:Int} {V:List Int} {L:List (Int × Int × Int)} (h:stOk p V L=true) (hs:(bQ p.toNat V L).status=1):newF (frN V L) (bQ p.toNat V L) (frN V L).length ≠ []:=by
 intro hn;obtain ⟨hg,_,_,_⟩:=fC h;obtain ⟨h1,_,_,_,_,hV⟩:=fG hg;obtain ⟨v1,_,v3,_⟩:=kg hs;obtain ⟨r,hr⟩:∃ r,r=bQ p.toNat V L:=⟨_,rfl⟩;have v3':aH aK (stA p.toNat V L) (stB p.toNat) (stC V L) r=true:=by rw [hr];exact v3
 rw [<-hr] at hs hn;unfold aH at v3';rw [if_pos hs] at v3';obtain ⟨f1,_⟩:=both v3';unfold dt at f1;obtain ⟨_,f2⟩:=both f1;obtain ⟨_,f3⟩:=both f2;unfold cU at f3;have f4:=List.all_eq_true.1 f3 p.toNat (List.mem_range.2 (by simp [stA]));have f5:=of_decide_eq_true f4;have e1:(stA p.toNat V L)[p.toNat]?.getD []=List.replicate (frN V L).length 1++List.replicate (2*(extE V.length L).length) 0:=by
  unfold frN;rw [ma V (aN L (V.length-2)) (extE V.length L) p.toNat,gR rfl h1 hV L];unfold stA;rw [List.getElem?_map,List.getElem?_range (by omega),Option.map_some,Option.getD_some]
 have e2:(stB p.toNat)[p.toNat]?.getD 0=1:=by
  unfold stB;rw [List.getElem?_map,List.getElem?_range (by omega),Option.map_some,Option.getD_some];rw [show decide (p.toNat=p.toNat)=true from decide_eq_true rfl];rfl
 rw [e1,e2] at f5;obtain ⟨_,_,_,g4⟩:=ed f5;have hx:∀ j,j<(frN V L).length->val (r.X[j]?.getD (0,0))<=0:=by
  intro j hj;obtain ⟨_,_,g3,_⟩:=ed f5;have hv:=(g3 j (by rw [fE,List.length_append,List.length_replicate];omega)).2;have hnot:¬ 0<(r.X[j]?.getD (0,0)).1:=by
   intro hp;unfold newF at hn;rw [List.map_eq_nil_iff,List.filter_eq_nil_iff] at hn;exact hn j (List.mem_range.2 hj) (decide_eq_true hp)
  have hneg:=(hZ (p:=negR (r.X[j]?.getD (0,0))) (by rw [dj];exact hv)).1 (by show 0<=-(r.X[j]?.getD (0,0)).1;omega);rw [eG] at hneg
  grind
 have hle:=mT r.X (fun j=>(List.replicate (frN V L).length (1:Int)++List.replicate (2*(extE V.length L).length) 0)[j]?.getD 0) (frN V L).length (fun j hj=>by
  show (List.replicate (frN V L).length (1:Int)++List.replicate (2*(extE V.length L).length) 0)[j]?.getD 0=0;rw [List.getElem?_append_right (by rw [List.length_replicate];exact hj),List.getElem?_replicate]
  split <;> rfl) (fun j hj=>by
  show (List.replicate (frN V L).length (1:Int)++List.replicate (2*(extE V.length L).length) 0)[j]?.getD 0=1
  rw [List.getElem?_append_left (by rw [List.length_replicate];exact hj),List.getElem?_replicate,if_pos hj];rfl) hx (aw (List.replicate (frN V L).length (1:Int)++List.replicate (2*(extE V.length L).length) 0)).length
 have e3:val ((1:Int),(1:Int))=1:=by rw [eH];exact_mod_cast rfl
 rw [e3] at g4;have e4:sumN (fun j=>vrow (aw (List.replicate (frN V L).length (1:Int)++List.replicate (2*(extE V.length L).length) 0)) j*vrow r.X j) (aw (List.replicate (frN V L).length (1:Int)++List.replicate (2*(extE V.length L).length) 0)).length=sumN (fun j=>(((List.replicate (frN V L).length (1:Int)++List.replicate (2*(extE V.length L).length) 0)[j]?.getD 0:Int):Rat)*val (r.X[j]?.getD (0,0))) (aw (List.replicate (frN V L).length (1:Int)++List.replicate (2*(extE V.length L).length) 0)).length :=
  en fun j _=>by rw [oU];rfl
 rw [e4] at g4;have h10:(1:Rat)<=0:=by rw [g4];exact hle
 exact absurd h10 (by decide)
theorem mr {fr:List Int} {r:LpR} {k:Nat} (hk:k<=fr.length) {f:Int × Int × Int} (h:f ∈ newF fr r k):f.1 ∈ fr:=by
 unfold newF at h;obtain ⟨j,hj,rfl⟩:=List.mem_map.1 h;have:=List.mem_range.1 (List.mem_filter.1 hj).1;have hl:j<fr.length:=by omega
 show fr[j]?.getD 0 ∈ fr;rw [List.getElem?_eq_getElem hl,Option.getD_some];exact List.getElem_mem hl
theorem gZ (fr:List Int) (r:LpR) (k:Nat):(newF fr r k).length<=k:=by
 unfold newF;rw [List.length_map];have:=List.length_filter_le (fun j=>decide (0<(r.X[j]?.getD (0,0)).1)) (List.range k);rw [List.length_range] at this;exact this
theorem po {L T:List (Int × Int × Int)} {m:Nat} (hT:T ≠ []) (hm:∀ f ∈ T,f.1 ∈ aN L m):(aN (L++T) m).length<(aN L m).length:=by
 have e:aN (L++T) m=(aN L m).filter fun s=>!hasX T s:=by
  unfold aN;rw [List.filter_filter];refine List.filter_congr fun s _=>?_
  unfold hasX;rw [List.any_append];cases L.any _ <;> cases T.any _ <;> rfl
 rw [e,List.length_filter_lt_length_iff_exists];obtain ⟨f,hf⟩:=List.exists_mem_of_ne_nil T hT;refine ⟨f.1,hm f hf,?_⟩;have:hasX T f.1=true:=List.any_eq_true.2 ⟨f,hf,by simp⟩;rw [this];decide
theorem jQ {p:Int} {V:List Int} {L:List (Int × Int × Int)} (h:stOk p V L=true) (hs:(bQ p.toNat V L).status=1):(frN V (cV V L (bQ p.toNat V L))).length<(frN V L).length :=
 po (pM h hs) fun _ hf=>mr (Nat.le_refl _) hf
theorem jG (V:List Int):∀ (E:List (Int × Int × Int)) (i:Nat) (c:Col),(aI V E)[i]?=some c->∃ i':Nat,(aI V E)[i']?=some (c.1,-c.2.1,c.2.2.1,-c.2.2.2.1,c.2.2.2.2)
 | [],i,c,h=>by simp [aI] at h
 | f :: E,0,c,h=>by
   simp only [aI,List.flatMap_cons,twoC,List.cons_append,List.getElem?_cons_zero,Option.some.injEq] at h;subst h;exact ⟨1,by simp [aI,twoC]⟩
 | f :: E,1,c,h=>by
   simp only [aI,List.flatMap_cons,twoC,List.cons_append,List.getElem?_cons_succ,List.getElem?_cons_zero,Option.some.injEq] at h;subst h;exact ⟨0,by simp [aI,twoC]⟩
 | f :: E,i+2,c,h=>by
   simp only [aI,List.flatMap_cons,twoC,List.cons_append,List.nil_append,List.getElem?_cons_succ] at h;obtain ⟨i',h'⟩:=jG V E i c h;exact ⟨i'+2,by simp only [aI,List.flatMap_cons,twoC,List.cons_append,List.nil_append,List.getElem?_cons_succ];exact h'⟩
theorem nD {q:Nat} {V:List Int} {L:List (Int × Int × Int)} {j:Nat} {c:Col} (h:(cJ V L)[j]?=some c):colL (stA q V L) j=(List.range (q+1)).map fun k=>c.2.1*bitI (onC q k c):=by
 unfold colL stA;rw [List.map_map];refine List.map_congr_left fun k _=>?_
 show ((cJ V L).map fun c=>c.2.1*bitI (onC q k c))[j]?.getD 0=_;rw [List.getElem?_map,h];rfl
theorem mO {V:List Int} {L:List (Int × Int × Int)} {j:Nat} {c:Col} (h:(cJ V L)[j]?=some c):(stC V L)[j]?.getD (0,0)=c.2.2.2:=by
 unfold stC;rw [List.getElem?_map,h];rfl
theorem st_nice {p:Int} {V:List Int} {L:List (Int × Int × Int)} (h:stOk p V L=true) (j:Nat) (hj:j<(stC V L).length):niceC (stA p.toNat V L) (stC V L) j:=by
 obtain ⟨hg,_,_,_⟩:=fC h;obtain ⟨h1,_,_,_,_,hV⟩:=fG hg;have hce:=gR rfl h1 hV L;have hj':j<(cJ V L).length:=by unfold stC at hj;rw [List.length_map] at hj;exact hj
 obtain ⟨c,hc⟩:∃ c,(cJ V L)[j]?=some c:=⟨_,List.getElem?_eq_getElem hj'⟩;by_cases hf:j<(be V (aN L (V.length-2))).length
 ·refine Or.inl ⟨-(V[((aN L (V.length-2))[j]?.getD 0).toNat]?.getD 0),?_,?_⟩
  ·rw [mO hc];rw [<-hce,List.getElem?_append_left hf] at hc;unfold be at hc;rw [cQ] at hf;rw [List.getElem?_map,List.getElem?_eq_getElem hf,Option.map_some,Option.some.injEq] at hc;rw [<-hc,List.getElem?_eq_getElem hf,Option.getD_some]
  ·have:=oz hg ((aN L (V.length-2))[j]?.getD 0).toNat;omega
 ·refine Or.inr ?_;have hc':=hc;rw [<-hce,List.getElem?_append_right (by omega)] at hc';obtain ⟨i',hi'⟩:=jG V _ _ _ hc';have hi:(cJ V L)[(be V (aN L (V.length-2))).length+i']?=some (c.1,-c.2.1,c.2.2.1,-c.2.2.2.1,c.2.2.2.2):=by
   rw [<-hce,List.getElem?_append_right (by omega),Nat.add_sub_cancel_left];exact hi'
  refine ⟨(be V (aN L (V.length-2))).length+i',?_,?_,?_⟩
  ·have:=(List.getElem?_eq_some_iff.1 hi).1;unfold stC;rw [List.length_map];exact this
  ·rw [mO hi,mO hc];rfl
  ·rw [nD hi,nD hc,List.map_map];refine List.map_congr_left fun k _=>?_
   show -c.2.1*bitI (onC p.toNat k c)=-(c.2.1*bitI (onC p.toNat k c));rw [Int.neg_mul]
theorem nuc_both {p:Int} {V:List Int} {L:List (Int × Int × Int)} (h:stOk p V L=true):bQ p.toNat V L=ef (stA p.toNat V L) (stB p.toNat) (stC V L):=oT fun _ j hj=>st_nice h j hj
theorem oK {p:Int} {V:List Int} (h:bL p V=true) (h2:2<=p) (s:Int):dX p [s]<p:=by
 obtain ⟨_,_,hp,_,h5,_⟩:=fG h;unfold dX;rw [if_pos (by unfold inB;simp only [Bool.and_eq_true,decide_eq_true_eq];omega)];have:=(fJ kh (gT p.toNat [s]) p.toNat (by omega)).2.2.1;have e:([s].map (digR p.toNat)).length=1:=rfl;rw [e] at this;omega
theorem kZ {p:Int} {V:List Int} {L:List (Int × Int × Int)} (h:stOk p V L=true) (hs:(bQ p.toNat V L).status=1) :
 (frN V L).length<=(bQ p.toNat V L).X.length/\(bQ p.toNat V L).Y.length=p.toNat+1/\valR (bQ p.toNat V L).value=true/\∀ k,k<(bQ p.toNat V L).Y.length->valR ((bQ p.toNat V L).Y[k]?.getD (0,0))=true:=by
 obtain ⟨v1,_,v3,v4,v5,v6⟩:=kg hs;refine ⟨?_,by rw [show (bQ p.toNat V L).Y.length=(stB p.toNat).length from v4];simp [stB],v5,v6⟩;have v3':aH aK (stA p.toNat V L) (stB p.toNat) (stC V L) (bQ p.toNat V L)=true:=v3;unfold aH at v3';rw [if_pos hs] at v3';obtain ⟨f1,_⟩:=both v3';unfold dt at f1;have hl:=of_decide_eq_true (both f1).1;rw [hl];unfold stC cJ frN;rw [List.length_map,List.length_append,List.length_append,cQ];omega
theorem kz {p:Int} {V:List Int} {f k:Nat} {L:List (Int × Int × Int)} (h:¬(stOk p V L=true/\(bQ p.toNat V L).status=1)):nucF p V f L k=NucR.no:=by
 cases f with
 | zero=>rfl
 | succ f=>unfold nucF;rw [if_neg h]
def nucS (p:Int) (V:List Int) (f:Nat) (pt:List (Int × Int)) (L:List (Int × Int × Int)) (k:Nat):NucR:=if dF p V L=true then ⟨true,pt,L,k⟩ else nucF p V f L k
theorem oI {p:Int} {V:List Int} (hg:bL p V=true) (h2:2<=p):nucS p V ((frN V []).length+1) [] [] 0=nucR p V:=by
 have hd:dF p V []=false:=by
  unfold dF;have:=oK hg h2 ((V.length:Int)-1);exact decide_eq_false (by show ¬ dX p [(V.length:Int)-1]=p;omega)
 unfold nucS nucR;rw [hd,if_pos hg,if_neg (by simp),if_neg (by omega)]
theorem pQ {p:Int} {V:List Int} {f k:Nat} {pt:List (Int × Int)} {L:List (Int × Int × Int)} (hd:dF p V L=false) (h:stOk p V L=true) (hs:(bQ p.toNat V L).status=1) :
 nucS p V (f+1) pt L k=nucS p V f (ptN p.toNat (bQ p.toNat V L)) (cV V L (bQ p.toNat V L)) (k+1):=by
 unfold nucS;rw [hd,if_neg (by simp)]
 conv=>lhs;unfold nucF
 rw [if_pos ⟨h,hs⟩]
theorem nV {p:Int} {V:List Int} {f k:Nat} {pt:List (Int × Int)} {L:List (Int × Int × Int)} (hd:dF p V L=false) (h:¬(stOk p V L=true/\(bQ p.toNat V L).status=1)):nucS p V f pt L k=NucR.no:=by
 unfold nucS;rw [hd,if_neg (by simp),kz h]
theorem pP {p:Int} {V:List Int} {f k:Nat} {pt:List (Int × Int)} {L:List (Int × Int × Int)} (hd:dF p V L=true):nucS p V f pt L k=⟨true,pt,L,k⟩:=by
 unfold nucS;rw [hd,if_pos rfl]
theorem nQ {V:List Int} {L:List (Int × Int × Int)} {r:LpR} (hn:V.length<=32) (h:∀ f ∈ L,f.1<=1000) {k:Nat} (hk:L.length<=32*k):(∀ f ∈ cV V L r,f.1<=1000)/\(cV V L r).length<=32*(k+1):=by
 refine ⟨fun f hf=>?_,?_⟩
 ·rcases List.mem_append.1 hf with h1|h1
  ·exact h f h1
  ·have:=(gh (mr (Nat.le_refl _) h1)).2.1;omega
 ·unfold cV;rw [List.length_append];have h1:=gZ (frN V L) r (frN V L).length;have h2:(frN V L).length<=V.length-2:=dh L (V.length-2);omega
def zs (q:Nat) (z:Nat->Rat) (s:Int):Rat:=sumN (fun k=>z k*((bitI (hasP s (k:Int)):Int):Rat)) q
def exZ (q:Nat) (V:List Int) (z:Nat->Rat) (s:Int):Rat:=((V[s.toNat]?.getD 0:Int):Rat)-zs q z s
structure Meets (q:Nat) (V:List Int) (L:List (Int × Int × Int)) (z:Nat->Rat):Prop where
 grand:exZ q V z ((V.length:Int)-1)=0
 fixed:∀ f ∈ L,exZ q V z f.1=val f.2
end Go.Proofs.YthjjfkeacobikaaGreat
