import Derived.Test.YthjjfkeacobikaaGreatLeAllG0
import Derived.Test.YthjjfkeacobikaaGreatLeAllG4
import Derived.Deep.RegionLaw
import Derived.Test.YthjjfkeacobikaaGreatLeAllG2
set_option linter.unusedVariables false
set_option linter.unusedSimpArgs false
namespace Go.Proofs.YthjjfkeacobikaaGreat
set_option maxRecDepth 100000
open Go.RowKit
def in18 (a:Int):Prop:=-1000000000000000000<=a/\a<=1000000000000000000
theorem qG (p:Int) {q:Int} (h:q ≠ 0):(p.tmod q).natAbs<q.natAbs:=by
 rw [Int.natAbs_tmod];exact Nat.mod_lt _ (by omega)
theorem qF (p:Int) {q:Int} (h:q ≠ 0) (hq:in18 q):in18 (p.tmod q):=by
 have:=qG p h;unfold in18 at *
 revert this
 generalize p.tmod q=r;intro this;omega
set_option maxHeartbeats 1000000 in
theorem iJ (a b:Int) (w:World) (ha:in18 a) (hb:in18 b) :
 Calls Tryz.prog 172 #[.int .i64 a,.int .i64 b] w fun e w'=>e=.returned (.int .i64 (gI a b))/\Drew w w':=by
 go_enter Tryz.func172,Tryz.ntmps172
 go_wp2
 go_loopw [0,1] (fun x y wr=>∃ p q:Int,x=.int .i64 p/\y=.int .i64 q/\Hid (gI p q=gI a b)/\Hid (in18 p)/\Hid (in18 q)/\Drew w wr) (fun _ y _=>(intOf y).natAbs)
 case atStart=>exact ⟨a,b,rfl,rfl,ae rfl,ae ha,ae hb,Drew.refl _⟩
 case round =>
  obtain ⟨p,q,rfl,rfl,HG,HP,HQ,hx⟩:=hrel;obtain ⟨hp1,hp2⟩:=HP.out;obtain ⟨hq1,hq2⟩:=HQ.out;by_cases hq:q=0
  ·subst hq
   go_wp2
   all_goals
    go_ret;refine ⟨aQ ?_,hx⟩;have:=HG.out;rw [mh] at this;omega
  ·have hqb:(q != 0)=true:=by simpa using hq
   have hqb':(q == 0)=false:=by simpa using hq
   have ht:=qG p hq;have HT:=ae ht;have HQ':=ae hq
   go_wp2
   go_quiet (fail)
   go_wp2
   go_roundw
   case rel=>exact ⟨q,p.tmod q,rfl,by go_num,ae (by rw [qo];exact HG.out),HQ,ae (qF p HQ'.out HQ.out),hx.trans ⟨_,rfl⟩⟩
   case measure=>have h:=HT.out;rw [Int.natAbs_tmod] at h;simp [intOf,Int.natAbs_tmod];omega
set_option maxHeartbeats 1000000 in
theorem mG (a b:Int) (w:World) (ha:in18 a) (hb:in18 b) :
 Calls Tryz.prog 164 #[.int .i64 a,.int .i64 b] w fun e w'=>e=.returned (.int .i64 (gI a b))/\Drew w w':=by
 have ha':=ha;have hb':=hb;obtain ⟨ha1,ha2⟩:=ha';obtain ⟨hb1,hb2⟩:=hb';by_cases h1:a<0
 all_goals
  by_cases h2:b<0
  all_goals
   go_enter Tryz.func164,Tryz.ntmps164
   go_wp2
   go_loop [0,1,5] (fun x y z=>∃ p q:Int,x=.int .i64 p/\y=.int .i64 q/\0<=p/\0<=q/\Hid (gI p q=gI a b)/\Hid (in18 p)/\Hid (in18 q)) (fun _ y _=>(intOf y).natAbs)
   case atStart =>
    first
     | exact ⟨_,_,rfl,rfl,by omega,by omega,ae rfl,ae ha,ae hb⟩
     | exact ⟨-a,_,by go_num,rfl,by omega,by omega,ae (gQ _ _),ae ⟨by omega,by omega⟩,ae hb⟩
     | exact ⟨_,-b,rfl,by go_num,by omega,by omega,ae (jK _ _),ae ha,ae ⟨by omega,by omega⟩⟩
     | exact ⟨-a,-b,by go_num,by go_num,by omega,by omega,ae ((gQ _ _).trans (jK _ _)),ae ⟨by omega,by omega⟩,ae ⟨by omega,by omega⟩⟩
   case round =>
    obtain ⟨p,q,rfl,rfl,hp0,hq0,HG,HP,HQ⟩:=hrel;by_cases hq:q=0
    ·subst hq
     go_wp2
     go_ret;refine ⟨aQ ?_,Drew.refl _⟩;have:=HG.out;rw [mh] at this;omega
    ·have hqb':(q == 0)=false:=by simpa using hq
     have hgt:0<q:=by omega
     have HT:=ae (Int.emod_lt_of_pos p hgt);have HTN:=ae (Int.emod_nonneg p hq);have HQ':=ae hq;have HM:=ae (Int.tmod_eq_emod_of_nonneg (b:=q) hp0)
     go_wp2
     go_round
     case rel=>exact ⟨q,p % q,rfl,by go_num,by omega,HTN.out,ae (by rw [<-HM.out,qo];exact HG.out),HQ,ae (by rw [<-HM.out];exact qF p HQ'.out HQ.out)⟩
     case measure=>have:=HT.out;have:=HTN.out;simp [intOf];omega
abbrev ratV (x y:Int):Value:=.agg #[.int .i64 x,.int .i64 y]
abbrev resR (r:(Int × Int) × Bool):Value:=.tuple #[.agg #[.int .i64 r.1.1,.int .i64 r.1.2],.bool r.2]
theorem fP {a:Int} (h:in18 a):in18 (-a):=by unfold in18 at *;omega
theorem lJ (n:Int) {g:Int} (hg:1<=g) (hn:in18 n):in18 (n.tdiv g):=by
 have:=kN n g hg;unfold in18 at *
 revert this
 generalize n.tdiv g=r;intro this;omega
theorem br {a:Int} (h:in18 a):IntKind.i64.wrap a=a/\wrap64 a=a:=by
 unfold in18 at h;have:wrap64 a=a:=by unfold wrap64;omega
 exact ⟨by rw [IntKind.wrap_i64];omega,this⟩
set_option maxHeartbeats 1000000 in
theorem ar (x y:Int) (w:World) :
 Calls Tryz.prog 105 #[ratV x y] w fun e w'=>e=.returned (.bool (valR (x,y)))/\Ext w w':=by
 have HX:=ae (Ext.alloc w (.cells #[.int .i64 x,.int .i64 y] 43));cases h1:inB y 1 1000000000
 ·have H1:=ae h1;clear h1;go_enter Tryz.func105,Tryz.ntmps105
  go_wp2_with fail;refine (aX _ _ _ _).mono ?_;rw [H1.out];rintro e w1 ⟨rfl,rfl⟩
  go_wp2
  go_ret;exact ⟨ag (by simp [valR,H1.out]),HX.out⟩
 ·have H1:=ae h1;have hy:in18 y:=by simp only [inB,Bool.and_eq_true,decide_eq_true_eq] at h1;exact ⟨by omega,by omega⟩
  clear h1;cases h2:inB x (-1000000000) 1000000000
  ·have H2:=ae h2;clear h2;go_enter Tryz.func105,Tryz.ntmps105
   go_wp2_with fail;refine (aX _ _ _ _).mono ?_;rw [H1.out];rintro e w1 ⟨rfl,rfl⟩;go_wp2_with fail;refine (aX _ _ _ _).mono ?_;rw [H2.out];rintro e w1 ⟨rfl,rfl⟩
   go_wp2
   go_ret;exact ⟨ag (by simp [valR,H2.out]),HX.out⟩
  ·have H2:=ae h2;have hx:in18 x:=by simp only [inB,Bool.and_eq_true,decide_eq_true_eq] at h2;exact ⟨by omega,by omega⟩
   clear h2;have HC:=ae (iJ x y (w.alloc (.cells #[.int .i64 x,.int .i64 y] 43)) hx hy);go_enter Tryz.func105,Tryz.ntmps105
   go_wp2_with fail;refine (aX _ _ _ _).mono ?_;rw [H1.out];rintro e w1 ⟨rfl,rfl⟩;go_wp2_with fail;refine (aX _ _ _ _).mono ?_;rw [H2.out];rintro e w1 ⟨rfl,rfl⟩;go_wp2_with fail;refine HC.out.mono ?_;rintro e w1 ⟨rfl,hd⟩
   go_wp2
   go_ret;exact ⟨ag (by simp only [valR,H1.out,H2.out];by_cases h:gI x y=1 <;> simp [h]),HX.out.trans hd.ext⟩
set_option maxHeartbeats 1000000 in
theorem aI (x y:Int) (w:World) :
 Calls Tryz.prog 104 #[ratV x y] w fun e w'=>e=.returned (.bool (valR (x,y)))/\Ext w w':=by
 have HX:=ae (Ext.alloc w (.cells #[.int .i64 x,.int .i64 y] 43));cases h1:inB y 1 1000000000
 ·have H1:=ae h1;clear h1;go_enter Tryz.func104,Tryz.ntmps104
  go_wp2_with fail;refine (bw _ _ _ _).mono ?_;rw [H1.out];rintro e w1 ⟨rfl,rfl⟩
  go_wp2
  go_ret;exact ⟨ag (by simp [valR,H1.out]),HX.out⟩
 ·have H1:=ae h1;have hy:in18 y:=by simp only [inB,Bool.and_eq_true,decide_eq_true_eq] at h1;exact ⟨by omega,by omega⟩
  clear h1;cases h2:inB x (-1000000000) 1000000000
  ·have H2:=ae h2;clear h2;go_enter Tryz.func104,Tryz.ntmps104
   go_wp2_with fail;refine (bw _ _ _ _).mono ?_;rw [H1.out];rintro e w1 ⟨rfl,rfl⟩;go_wp2_with fail;refine (bw _ _ _ _).mono ?_;rw [H2.out];rintro e w1 ⟨rfl,rfl⟩
   go_wp2
   go_ret;exact ⟨ag (by simp [valR,H2.out]),HX.out⟩
  ·have H2:=ae h2;have hx:in18 x:=by simp only [inB,Bool.and_eq_true,decide_eq_true_eq] at h2;exact ⟨by omega,by omega⟩
   clear h2;have HC:=ae (mG x y (w.alloc (.cells #[.int .i64 x,.int .i64 y] 43)) hx hy);go_enter Tryz.func104,Tryz.ntmps104
   go_wp2_with fail;refine (bw _ _ _ _).mono ?_;rw [H1.out];rintro e w1 ⟨rfl,rfl⟩;go_wp2_with fail;refine (bw _ _ _ _).mono ?_;rw [H2.out];rintro e w1 ⟨rfl,rfl⟩;go_wp2_with fail;refine HC.out.mono ?_;rintro e w1 ⟨rfl,hd⟩
   go_wp2
   go_ret;exact ⟨ag (by simp only [valR,H1.out,H2.out];by_cases h:gI x y=1 <;> simp [h]),HX.out.trans hd.ext⟩
set_option maxHeartbeats 4000000 in
theorem jL (n d:Int) (w:World) :
 Calls Tryz.prog 178 #[.int .i64 n,.int .i64 d] w fun e w'=>e=.returned (resR (aL n d))/\Ext w w':=by
 have HX:=ae (Ext.alloc w (.cells #[.int .i64 0,.int .i64 0] 43));by_cases h0:d=0
 ·have HR:=ae (show aL n d=((0,0),false) by unfold aL;rw [if_pos (.inl h0)]);subst h0;go_enter Tryz.func178,Tryz.ntmps178
  go_wp2
  rw [HR.out];refine bodyPost_ret (v:=.tuple #[.agg #[.int .i64 0,.int .i64 0],.bool false]) (by simp [results,Tryz.results178,go_sem]) rfl ⟨rfl,HX.out⟩
 have h0b:(d == 0)=false:=by simpa using h0
 cases h1:inB n (-1000000000000000000) 1000000000000000000
 ·have H1:=ae h1;clear h1;have HR:=ae (show aL n d=((0,0),false) by unfold aL;rw [if_pos (.inr (.inl H1.out))]);go_enter Tryz.func178,Tryz.ntmps178
  go_wp2_with fail;refine (aX _ _ _ _).mono ?_;rw [H1.out];rintro e w1 ⟨rfl,rfl⟩
  go_wp2
  rw [HR.out];refine bodyPost_ret (v:=.tuple #[.agg #[.int .i64 0,.int .i64 0],.bool false]) (by simp [results,Tryz.results178,go_sem]) rfl ⟨rfl,HX.out⟩
 have H1:=ae h1;have hn:in18 n:=by simp only [inB,Bool.and_eq_true,decide_eq_true_eq] at h1;exact ⟨by omega,by omega⟩
 clear h1;cases h2:inB d (-1000000000000000000) 1000000000000000000
 ·have H2:=ae h2;clear h2;have HR:=ae (show aL n d=((0,0),false) by unfold aL;rw [if_pos (.inr (.inr H2.out))]);go_enter Tryz.func178,Tryz.ntmps178
  go_wp2_with fail;refine (aX _ _ _ _).mono ?_;rw [H1.out];rintro e w1 ⟨rfl,rfl⟩;go_wp2_with fail;refine (aX _ _ _ _).mono ?_;rw [H2.out];rintro e w1 ⟨rfl,rfl⟩
  go_wp2
  rw [HR.out];refine bodyPost_ret (v:=.tuple #[.agg #[.int .i64 0,.int .i64 0],.bool false]) (by simp [results,Tryz.results178,go_sem]) rfl ⟨rfl,HX.out⟩
 have H2:=ae h2;have hd:in18 d:=by simp only [inB,Bool.and_eq_true,decide_eq_true_eq] at h2;exact ⟨by omega,by omega⟩
 clear h2;have hg1:=jr n h0;have hg2:=gI_le n h0;have hq:=lJ n hg1 hn;have hq':=lJ d hg1 hd;by_cases h3:d<0
 ·have HC:=ae (iJ n d (w.alloc (.cells #[.int .i64 0,.int .i64 0] 43)) hn hd);obtain ⟨g,hg⟩:∃ g,g=gI n d:=⟨_,rfl⟩;rw [<-hg] at hg1 hg2 HC hq hq';have HG:=ae hg;have hg3:g<=1000000000000000000:=by obtain ⟨_,_⟩:=hd;omega
  have hgz:¬ g=0:=by omega
  have hgn:(-g == 0)=false:=by simp;omega
  obtain ⟨hn1,hn2⟩:=hn;obtain ⟨hd1,hd2⟩:=hd;obtain ⟨q1,hq1⟩:∃ q1,q1=-(n.tdiv g):=⟨_,rfl⟩;obtain ⟨q2,hq2⟩:∃ q2,q2=-(d.tdiv g):=⟨_,rfl⟩;have HR:=ae (show aL n d=cutR (q1,q2) by unfold aL;rw [if_neg (by simp [h0,H1.out,H2.out]),if_pos h3,<-HG.out,Int.tdiv_neg,Int.tdiv_neg,hq1,hq2]);obtain ⟨e1,e2⟩:=br (fP hq);obtain ⟨e3,e4⟩:=br (fP hq');rw [<-hq1] at e1 e2;rw [<-hq2] at e3 e4;have m1:(-n).tdiv g=q1:=by rw [Int.neg_tdiv,hq1]
  have m2:(-d).tdiv g=q2:=by rw [Int.neg_tdiv,hq2]
  have m3:n.tdiv (-g)=q1:=by rw [Int.tdiv_neg,hq1]
  have m4:d.tdiv (-g)=q2:=by rw [Int.tdiv_neg,hq2]
  have hq1':=hq1.symm;have hq2':=hq2.symm;clear hq hq' hg hg2 hq1 hq2;cases hv:valR (q1,q2)
  all_goals
   go_enter Tryz.func178,Tryz.ntmps178
   go_wp2_with fail;refine (aX _ _ _ _).mono ?_;rw [H1.out];rintro e w1 ⟨rfl,rfl⟩;go_wp2_with fail;refine (aX _ _ _ _).mono ?_;rw [H2.out];rintro e w1 ⟨rfl,rfl⟩;go_wp2_with fail;refine HC.out.mono ?_;rintro e w1 ⟨rfl,hd⟩;have hB:w1.heap[w.heap.size]?=some (.cells #[.int .i64 0,.int .i64 0] 43 (0,0)):=(hd.ext.block _ (by simp)).trans (heap_alloc_new _ _);have HB:=ae hB;have LT:=ae (lt_of_block hB);have X1:=ae (HX.out.trans hd.ext);clear hd hB
   go_wp2
   go_region_law (fail)
   have X2:=ae ((X1.out.trans (Ext.alloc w1 (.cells #[.int .i64 q1,.int .i64 q2] 43))).trans (Ext.drew _));have HV:=ae (ar q1 q2 ((w1.alloc (.cells #[.int .i64 q1,.int .i64 q2] 43)).drew));go_wp2_with fail;refine HV.out.mono ?_;rw [hv];rintro e w2 ⟨rfl,hx⟩;have lt:=LT.out;have hB:w2.heap[w.heap.size]?=some (.cells #[.int .i64 0,.int .i64 0] 43 (0,0)):=(hx.block _ (by simp;omega)).trans ((bK w1 (.cells #[.int .i64 q1,.int .i64 q2] 43) _ lt).trans HB.out);have hC:w2.heap[w1.heap.size]?=some (.cells #[.int .i64 q1,.int .i64 q2] 43 (0,0)):=(hx.block _ (by simp)).trans (heap_alloc_new w1 (.cells #[.int .i64 q1,.int .i64 q2] 43));have b0:w2.cell? ⟨w.heap.size,0,none⟩=some (.int .i64 0):=by rw [cell_of_row _ _ _ _ _ _ hB];rfl
   have b1:w2.cell? ⟨w.heap.size,1,none⟩=some (.int .i64 0):=by rw [cell_of_row _ _ _ _ _ _ hB];rfl
   have c0:w2.cell? ⟨w1.heap.size,0,none⟩=some (.int .i64 q1):=by rw [cell_of_row _ _ _ _ _ _ hC];rfl
   have c1:w2.cell? ⟨w1.heap.size,1,none⟩=some (.int .i64 q2):=by rw [cell_of_row _ _ _ _ _ _ hC];rfl
   have fb:∀ o,w2.frozen? ⟨w.heap.size,o,none⟩=false:=fun o=>frozen_of_row _ _ _ _ _ hB
   have X3:=ae (X2.out.trans hx);clear hx hB hC lt
   go_wp2
   rw [HR.out]
  ·refine bodyPost_ret (v:=.tuple #[.agg #[.int .i64 0,.int .i64 0],.bool false]) (by simp [results,Tryz.results178,go_sem,b0,b1]) rfl ⟨by simp [cutR,hv],?_⟩;exact (X3.out.setCell (by simp) _).setCell (by simp) _
  ·refine bodyPost_ret (v:=.tuple #[.agg #[.int .i64 q1,.int .i64 q2],.bool true]) (by simp [results,Tryz.results178,go_sem,b0,b1]) rfl ⟨by simp [cutR,hv],?_⟩;exact (X3.out.setCell (by simp) _).setCell (by simp) _
 ·have HC:=ae (iJ n d (w.alloc (.cells #[.int .i64 0,.int .i64 0] 43)) hn hd);obtain ⟨g,hg⟩:∃ g,g=gI n d:=⟨_,rfl⟩;rw [<-hg] at hg1 hg2 HC hq hq';have HG:=ae hg;have hg3:g<=1000000000000000000:=by obtain ⟨_,_⟩:=hd;omega
  have hgz:¬ g=0:=by omega
  obtain ⟨hn1,hn2⟩:=hn;obtain ⟨hd1,hd2⟩:=hd;obtain ⟨q1,hq1⟩:∃ q1,q1=n.tdiv g:=⟨_,rfl⟩;obtain ⟨q2,hq2⟩:∃ q2,q2=d.tdiv g:=⟨_,rfl⟩;have HR:=ae (show aL n d=cutR (q1,q2) by unfold aL;rw [if_neg (by simp [h0,H1.out,H2.out]),if_neg h3,<-HG.out,hq1,hq2]);have hm:d.tdiv g=d / g:=Int.tdiv_eq_ediv_of_nonneg (by omega);obtain ⟨e1,e2⟩:=br hq;obtain ⟨e3,e4⟩:=br hq';rw [<-hq1] at e1 e2;rw [<-hq2] at e3 e4;have hq1':=hq1.symm;have hq2':=hq2.symm;have hq3':d / g=q2:=by rw [<-hm,hq2]
  clear hq hq' hg hg2 hq1 hq2 hm;cases hv:valR (q1,q2)
  all_goals
   go_enter Tryz.func178,Tryz.ntmps178
   go_wp2_with fail;refine (aX _ _ _ _).mono ?_;rw [H1.out];rintro e w1 ⟨rfl,rfl⟩;go_wp2_with fail;refine (aX _ _ _ _).mono ?_;rw [H2.out];rintro e w1 ⟨rfl,rfl⟩;go_wp2_with fail;refine HC.out.mono ?_;rintro e w1 ⟨rfl,hd⟩;have hB:w1.heap[w.heap.size]?=some (.cells #[.int .i64 0,.int .i64 0] 43 (0,0)):=(hd.ext.block _ (by simp)).trans (heap_alloc_new _ _);have HB:=ae hB;have LT:=ae (lt_of_block hB);have X1:=ae (HX.out.trans hd.ext);clear hd hB
   go_wp2
   go_region_law (fail)
   have X2:=ae ((X1.out.trans (Ext.alloc w1 (.cells #[.int .i64 q1,.int .i64 q2] 43))).trans (Ext.drew _));have HV:=ae (ar q1 q2 ((w1.alloc (.cells #[.int .i64 q1,.int .i64 q2] 43)).drew));go_wp2_with fail;refine HV.out.mono ?_;rw [hv];rintro e w2 ⟨rfl,hx⟩;have lt:=LT.out;have hB:w2.heap[w.heap.size]?=some (.cells #[.int .i64 0,.int .i64 0] 43 (0,0)):=(hx.block _ (by simp;omega)).trans ((bK w1 (.cells #[.int .i64 q1,.int .i64 q2] 43) _ lt).trans HB.out);have hC:w2.heap[w1.heap.size]?=some (.cells #[.int .i64 q1,.int .i64 q2] 43 (0,0)):=(hx.block _ (by simp)).trans (heap_alloc_new w1 (.cells #[.int .i64 q1,.int .i64 q2] 43));have b0:w2.cell? ⟨w.heap.size,0,none⟩=some (.int .i64 0):=by rw [cell_of_row _ _ _ _ _ _ hB];rfl
   have b1:w2.cell? ⟨w.heap.size,1,none⟩=some (.int .i64 0):=by rw [cell_of_row _ _ _ _ _ _ hB];rfl
   have c0:w2.cell? ⟨w1.heap.size,0,none⟩=some (.int .i64 q1):=by rw [cell_of_row _ _ _ _ _ _ hC];rfl
   have c1:w2.cell? ⟨w1.heap.size,1,none⟩=some (.int .i64 q2):=by rw [cell_of_row _ _ _ _ _ _ hC];rfl
   have fb:∀ o,w2.frozen? ⟨w.heap.size,o,none⟩=false:=fun o=>frozen_of_row _ _ _ _ _ hB
   have X3:=ae (X2.out.trans hx);clear hx hB hC lt
   go_wp2
   rw [HR.out]
  ·refine bodyPost_ret (v:=.tuple #[.agg #[.int .i64 0,.int .i64 0],.bool false]) (by simp [results,Tryz.results178,go_sem,b0,b1]) rfl ⟨by simp [cutR,hv],?_⟩;exact (X3.out.setCell (by simp) _).setCell (by simp) _
  ·refine bodyPost_ret (v:=.tuple #[.agg #[.int .i64 q1,.int .i64 q2],.bool true]) (by simp [results,Tryz.results178,go_sem,b0,b1]) rfl ⟨by simp [cutR,hv],?_⟩;exact (X3.out.setCell (by simp) _).setCell (by simp) _
set_option maxHeartbeats 4000000 in
theorem iB (n d:Int) (w:World) :
 Calls Tryz.prog 90 #[.int .i64 n,.int .i64 d] w fun e w'=>e=.returned (resR (aL n d))/\Ext w w':=by
 have HX:=ae (Ext.alloc w (.cells #[.int .i64 0,.int .i64 0] 43));by_cases h0:d=0
 ·have HR:=ae (show aL n d=((0,0),false) by unfold aL;rw [if_pos (.inl h0)]);subst h0;go_enter Tryz.func90,Tryz.ntmps90
  go_wp2
  rw [HR.out];refine bodyPost_ret (v:=.tuple #[.agg #[.int .i64 0,.int .i64 0],.bool false]) (by simp [results,Tryz.results90,go_sem]) rfl ⟨rfl,HX.out⟩
 have h0b:(d == 0)=false:=by simpa using h0
 cases h1:inB n (-1000000000000000000) 1000000000000000000
 ·have H1:=ae h1;clear h1;have HR:=ae (show aL n d=((0,0),false) by unfold aL;rw [if_pos (.inr (.inl H1.out))]);go_enter Tryz.func90,Tryz.ntmps90
  go_wp2_with fail;refine (bw _ _ _ _).mono ?_;rw [H1.out];rintro e w1 ⟨rfl,rfl⟩
  go_wp2
  rw [HR.out];refine bodyPost_ret (v:=.tuple #[.agg #[.int .i64 0,.int .i64 0],.bool false]) (by simp [results,Tryz.results90,go_sem]) rfl ⟨rfl,HX.out⟩
 have H1:=ae h1;have hn:in18 n:=by simp only [inB,Bool.and_eq_true,decide_eq_true_eq] at h1;exact ⟨by omega,by omega⟩
 clear h1;cases h2:inB d (-1000000000000000000) 1000000000000000000
 ·have H2:=ae h2;clear h2;have HR:=ae (show aL n d=((0,0),false) by unfold aL;rw [if_pos (.inr (.inr H2.out))]);go_enter Tryz.func90,Tryz.ntmps90
  go_wp2_with fail;refine (bw _ _ _ _).mono ?_;rw [H1.out];rintro e w1 ⟨rfl,rfl⟩;go_wp2_with fail;refine (bw _ _ _ _).mono ?_;rw [H2.out];rintro e w1 ⟨rfl,rfl⟩
  go_wp2
  rw [HR.out];refine bodyPost_ret (v:=.tuple #[.agg #[.int .i64 0,.int .i64 0],.bool false]) (by simp [results,Tryz.results90,go_sem]) rfl ⟨rfl,HX.out⟩
 have H2:=ae h2;have hd:in18 d:=by simp only [inB,Bool.and_eq_true,decide_eq_true_eq] at h2;exact ⟨by omega,by omega⟩
 clear h2;have hg1:=jr n h0;have hg2:=gI_le n h0;have hq:=lJ n hg1 hn;have hq':=lJ d hg1 hd;by_cases h3:d<0
 ·have HC:=ae (mG (-n) (-d) (w.alloc (.cells #[.int .i64 0,.int .i64 0] 43)) (fP hn) (fP hd));rw [gQ,jK] at HC;obtain ⟨g,hg⟩:∃ g,g=gI n d:=⟨_,rfl⟩;rw [<-hg] at hg1 hg2 HC hq hq';have HG:=ae hg;have hg3:g<=1000000000000000000:=by obtain ⟨_,_⟩:=hd;omega
  have hgz:¬ g=0:=by omega
  have hgn:(-g == 0)=false:=by simp;omega
  obtain ⟨hn1,hn2⟩:=hn;obtain ⟨hd1,hd2⟩:=hd;obtain ⟨q1,hq1⟩:∃ q1,q1=-(n.tdiv g):=⟨_,rfl⟩;obtain ⟨q2,hq2⟩:∃ q2,q2=-(d.tdiv g):=⟨_,rfl⟩;have HR:=ae (show aL n d=cutR (q1,q2) by unfold aL;rw [if_neg (by simp [h0,H1.out,H2.out]),if_pos h3,<-HG.out,Int.tdiv_neg,Int.tdiv_neg,hq1,hq2]);obtain ⟨e1,e2⟩:=br (fP hq);obtain ⟨e3,e4⟩:=br (fP hq');rw [<-hq1] at e1 e2;rw [<-hq2] at e3 e4;have m1:(-n).tdiv g=q1:=by rw [Int.neg_tdiv,hq1]
  have m2:(-d).tdiv g=q2:=by rw [Int.neg_tdiv,hq2]
  have m3:n.tdiv (-g)=q1:=by rw [Int.tdiv_neg,hq1]
  have m4:d.tdiv (-g)=q2:=by rw [Int.tdiv_neg,hq2]
  have hq1':=hq1.symm;have hq2':=hq2.symm;clear hq hq' hg hg2 hq1 hq2;cases hv:valR (q1,q2)
  all_goals
   go_enter Tryz.func90,Tryz.ntmps90
   go_wp2_with fail;refine (bw _ _ _ _).mono ?_;rw [H1.out];rintro e w1 ⟨rfl,rfl⟩;go_wp2_with fail;refine (bw _ _ _ _).mono ?_;rw [H2.out];rintro e w1 ⟨rfl,rfl⟩;go_wp2_with fail;refine HC.out.mono ?_;rintro e w1 ⟨rfl,hd⟩;have hB:w1.heap[w.heap.size]?=some (.cells #[.int .i64 0,.int .i64 0] 43 (0,0)):=(hd.ext.block _ (by simp)).trans (heap_alloc_new _ _);have HB:=ae hB;have LT:=ae (lt_of_block hB);have X1:=ae (HX.out.trans hd.ext);clear hd hB
   go_wp2
   go_region_law (fail)
   have X2:=ae ((X1.out.trans (Ext.alloc w1 (.cells #[.int .i64 q1,.int .i64 q2] 43))).trans (Ext.drew _));have HV:=ae (aI q1 q2 ((w1.alloc (.cells #[.int .i64 q1,.int .i64 q2] 43)).drew));go_wp2_with fail;refine HV.out.mono ?_;rw [hv];rintro e w2 ⟨rfl,hx⟩;have lt:=LT.out;have hB:w2.heap[w.heap.size]?=some (.cells #[.int .i64 0,.int .i64 0] 43 (0,0)):=(hx.block _ (by simp;omega)).trans ((bK w1 (.cells #[.int .i64 q1,.int .i64 q2] 43) _ lt).trans HB.out);have hC:w2.heap[w1.heap.size]?=some (.cells #[.int .i64 q1,.int .i64 q2] 43 (0,0)):=(hx.block _ (by simp)).trans (heap_alloc_new w1 (.cells #[.int .i64 q1,.int .i64 q2] 43));have b0:w2.cell? ⟨w.heap.size,0,none⟩=some (.int .i64 0):=by rw [cell_of_row _ _ _ _ _ _ hB];rfl
   have b1:w2.cell? ⟨w.heap.size,1,none⟩=some (.int .i64 0):=by rw [cell_of_row _ _ _ _ _ _ hB];rfl
   have c0:w2.cell? ⟨w1.heap.size,0,none⟩=some (.int .i64 q1):=by rw [cell_of_row _ _ _ _ _ _ hC];rfl
   have c1:w2.cell? ⟨w1.heap.size,1,none⟩=some (.int .i64 q2):=by rw [cell_of_row _ _ _ _ _ _ hC];rfl
   have fb:∀ o,w2.frozen? ⟨w.heap.size,o,none⟩=false:=fun o=>frozen_of_row _ _ _ _ _ hB
   have X3:=ae (X2.out.trans hx);clear hx hB hC lt
   go_wp2
   rw [HR.out]
  ·refine bodyPost_ret (v:=.tuple #[.agg #[.int .i64 0,.int .i64 0],.bool false]) (by simp [results,Tryz.results90,go_sem,b0,b1]) rfl ⟨by simp [cutR,hv],?_⟩;exact (X3.out.setCell (by simp) _).setCell (by simp) _
  ·refine bodyPost_ret (v:=.tuple #[.agg #[.int .i64 q1,.int .i64 q2],.bool true]) (by simp [results,Tryz.results90,go_sem,b0,b1]) rfl ⟨by simp [cutR,hv],?_⟩;exact (X3.out.setCell (by simp) _).setCell (by simp) _
 ·have HC:=ae (mG n d (w.alloc (.cells #[.int .i64 0,.int .i64 0] 43)) hn hd);obtain ⟨g,hg⟩:∃ g,g=gI n d:=⟨_,rfl⟩;rw [<-hg] at hg1 hg2 HC hq hq';have HG:=ae hg;have hg3:g<=1000000000000000000:=by obtain ⟨_,_⟩:=hd;omega
  have hgz:¬ g=0:=by omega
  obtain ⟨hn1,hn2⟩:=hn;obtain ⟨hd1,hd2⟩:=hd;obtain ⟨q1,hq1⟩:∃ q1,q1=n.tdiv g:=⟨_,rfl⟩;obtain ⟨q2,hq2⟩:∃ q2,q2=d.tdiv g:=⟨_,rfl⟩;have HR:=ae (show aL n d=cutR (q1,q2) by unfold aL;rw [if_neg (by simp [h0,H1.out,H2.out]),if_neg h3,<-HG.out,hq1,hq2]);have hm:d.tdiv g=d / g:=Int.tdiv_eq_ediv_of_nonneg (by omega);obtain ⟨e1,e2⟩:=br hq;obtain ⟨e3,e4⟩:=br hq';rw [<-hq1] at e1 e2;rw [<-hq2] at e3 e4;have hq1':=hq1.symm;have hq2':=hq2.symm;have hq3':d / g=q2:=by rw [<-hm,hq2]
  clear hq hq' hg hg2 hq1 hq2 hm;cases hv:valR (q1,q2)
  all_goals
   go_enter Tryz.func90,Tryz.ntmps90
   go_wp2_with fail;refine (bw _ _ _ _).mono ?_;rw [H1.out];rintro e w1 ⟨rfl,rfl⟩;go_wp2_with fail;refine (bw _ _ _ _).mono ?_;rw [H2.out];rintro e w1 ⟨rfl,rfl⟩;go_wp2_with fail;refine HC.out.mono ?_;rintro e w1 ⟨rfl,hd⟩;have hB:w1.heap[w.heap.size]?=some (.cells #[.int .i64 0,.int .i64 0] 43 (0,0)):=(hd.ext.block _ (by simp)).trans (heap_alloc_new _ _);have HB:=ae hB;have LT:=ae (lt_of_block hB);have X1:=ae (HX.out.trans hd.ext);clear hd hB
   go_wp2
   go_region_law (fail)
   have X2:=ae ((X1.out.trans (Ext.alloc w1 (.cells #[.int .i64 q1,.int .i64 q2] 43))).trans (Ext.drew _));have HV:=ae (aI q1 q2 ((w1.alloc (.cells #[.int .i64 q1,.int .i64 q2] 43)).drew));go_wp2_with fail;refine HV.out.mono ?_;rw [hv];rintro e w2 ⟨rfl,hx⟩;have lt:=LT.out;have hB:w2.heap[w.heap.size]?=some (.cells #[.int .i64 0,.int .i64 0] 43 (0,0)):=(hx.block _ (by simp;omega)).trans ((bK w1 (.cells #[.int .i64 q1,.int .i64 q2] 43) _ lt).trans HB.out);have hC:w2.heap[w1.heap.size]?=some (.cells #[.int .i64 q1,.int .i64 q2] 43 (0,0)):=(hx.block _ (by simp)).trans (heap_alloc_new w1 (.cells #[.int .i64 q1,.int .i64 q2] 43));have b0:w2.cell? ⟨w.heap.size,0,none⟩=some (.int .i64 0):=by rw [cell_of_row _ _ _ _ _ _ hB];rfl
   have b1:w2.cell? ⟨w.heap.size,1,none⟩=some (.int .i64 0):=by rw [cell_of_row _ _ _ _ _ _ hB];rfl
   have c0:w2.cell? ⟨w1.heap.size,0,none⟩=some (.int .i64 q1):=by rw [cell_of_row _ _ _ _ _ _ hC];rfl
   have c1:w2.cell? ⟨w1.heap.size,1,none⟩=some (.int .i64 q2):=by rw [cell_of_row _ _ _ _ _ _ hC];rfl
   have fb:∀ o,w2.frozen? ⟨w.heap.size,o,none⟩=false:=fun o=>frozen_of_row _ _ _ _ _ hB
   have X3:=ae (X2.out.trans hx);clear hx hB hC lt
   go_wp2
   rw [HR.out]
  ·refine bodyPost_ret (v:=.tuple #[.agg #[.int .i64 0,.int .i64 0],.bool false]) (by simp [results,Tryz.results90,go_sem,b0,b1]) rfl ⟨by simp [cutR,hv],?_⟩;exact (X3.out.setCell (by simp) _).setCell (by simp) _
  ·refine bodyPost_ret (v:=.tuple #[.agg #[.int .i64 q1,.int .i64 q2],.bool true]) (by simp [results,Tryz.results90,go_sem,b0,b1]) rfl ⟨by simp [cutR,hv],?_⟩;exact (X3.out.setCell (by simp) _).setCell (by simp) _
def aN (p:Int) (l:List Int):Bool:=l.all (fun x=>inB x (-500) 500)&&(inB p 1 5&&(decide ((l.length:Int)=cntC p)&&decide (l[0]?.getD 0=0)))
theorem bd {p:Int} {l:List Int} (h:aN p l=true):∃ n:Nat,p=n/\1<=n/\n<=5/\l.length=cN n/\l[0]?.getD 0=0/\∀ x ∈ l,-500<=x/\x<=500:=by
 unfold aN at h;simp only [Bool.and_eq_true,decide_eq_true_eq] at h;obtain ⟨ha,hp,hl,h0⟩:=h;have hb:1<=p/\p<=5:=by unfold inB at hp;simpa using hp
 refine ⟨p.toNat,by omega,by omega,by omega,?_,h0,?_⟩
 ·have:p=(p.toNat:Int):=by omega
  rw [this,iF _ (by omega)] at hl;omega
 ·intro x hx;have:=List.all_eq_true.1 ha x hx;unfold inB at this
  simpa using this
set_option maxHeartbeats 1000000 in
theorem dA {w:World} {p:Int} {a:Option Addr} {n cap:Nat} {l:List Int} (h:Ints w a n cap l) :
 Calls Tryz.prog 89 #[pair p a n cap] w fun e w'=>e=.returned (.bool (aN p l))/\Ext w w':=by
 have h1:=h.alloc (.cells #[.int .i64 p,.slice a n cap] 29);have hn:=h.hcap;have hm:=h.hmax;have HL:=ae h.hlen;clear h;go_enter Tryz.func89,Tryz.ntmps89
 go_wp2
 go_loop [3] (fun i=>∃ k:Nat,k<=n/\i=.int .i64 k/\(l.take k).all (fun x=>inB x (-500) 500)=true) (fun i=>n-(intOf i).toNat)
 case atStart=>exact ⟨0,Nat.zero_le _,rfl,rfl⟩
 case round =>
  obtain ⟨k,hk,rfl,hall⟩:=hrel;have HA:=ae hall;clear hall;by_cases hlt:k<n
  ·obtain ⟨b,off,rfl,hc⟩:=h1.at hlt;cases hb:inB (l[k]?.getD 0) (-500) 500
   ·have HB:=ae hb;go_wp2_with (first|(go_at_call 95;refine (bw _ _ _ _).mono ?_;rintro e w' ⟨rfl,rfl⟩));go_ret;refine ⟨ag ?_,Ext.alloc _ _⟩
    symm
    unfold aN;cases hx:l.all (fun x=>inB x (-500) 500)
    ·rfl
    ·have:=pX hx (k:=k) (by have:=HL.out;omega);rw [HB.out] at this;cases this
   ·have HB:=ae hb;go_wp2_with (first|(go_at_call 95;refine (bw _ _ _ _).mono ?_;rintro e w' ⟨rfl,rfl⟩))
    go_round
    case rel=>exact ⟨k+1,by omega,by go_num,by rw [cw (by have:=HL.out;omega),List.all_append,HA.out];simpa using HB.out⟩
    case measure=>simp [intOf];omega
  ·have hkn:k=l.length:=by have:=HL.out;omega
   have hall:=HA.out;rw [hkn,List.take_length] at hall;have HALL:=ae hall;clear hall hkn;cases hp:inB p 1 5
   ·have HP:=ae hp
    go_wp2
    go_quiet ((first|(go_at_call 95;exact bM (bw _ _ _ _))|(go_at_call 73;exact bM (dF _ _))))
    go_wp2
    go_ret;exact ⟨ag (by unfold aN;rw [HALL.out,HP.out];rfl),below_drewN (Ext.alloc _ _) _⟩
   ·have HP:=ae hp;cases hl:((n:Int) == cntC p)
    ·have HE:=ae hl
     go_wp2
     go_quiet ((first|(go_at_call 95;exact bM (bw _ _ _ _))|(go_at_call 73;exact bM (dF _ _))))
     go_wp2
     go_ret;refine ⟨ag ?_,below_drewN (Ext.alloc _ _) _⟩;have:¬ ((l.length:Int)=cntC p):=by rw [HL.out];have:=HE.out;simpa using this
     unfold aN;rw [decide_eq_false this];simp
    ·have HE:=ae hl;have hpos:0<n:=by
      have h1:1<=p/\p<=5:=by unfold inB at hp;simpa using hp
      have h2:(n:Int)=cntC p:=by simpa using hl
      unfold cntC at h2;rw [if_pos (by unfold inB;simp;omega)] at h2;have:=fQ p.toNat;omega
     obtain ⟨b,off,rfl,hc⟩:=h1.at hpos;rw [Nat.add_zero] at hc
     go_wp2
     go_quiet ((first|(go_at_call 95;exact bM (bw _ _ _ _))|(go_at_call 73;exact bM (dF _ _))))
     go_wp2
     go_ret;refine ⟨ag ?_,below_drewN (Ext.alloc _ _) _⟩;have he:(l.length:Int)=cntC p:=by rw [HL.out];have:=HE.out;simpa using this
     unfold aN;rw [HALL.out,HP.out,decide_eq_true he];rw [Bool.eq_iff_iff];simp
theorem mi (x:Int) (w:World):Calls Tryz.prog 192 #[.int .i64 x] w fun e w'=>e=.returned (.bool (!inB x (-500) 500))/\w=w':=by
 go_enter Tryz.func192,Tryz.ntmps192
 go_wp2_with (first|(go_at_call 80;refine (aX _ _ _ _).mono ?_;rintro e w' ⟨rfl,rfl⟩));go_ret;exact ⟨rfl,rfl⟩
theorem lj:IsGo Tryz.prog 192:=isGo Tryz.func192 (by kernel_rfl) (by kernel_rfl)
theorem jR (w:World):Asks Tryz.prog w 192 #[] (fun x=>!inB x (-500) 500) :=
 fun x w1 _=>(mi x w1).mono fun e w' ⟨he,hw⟩=>⟨he,hw ▸ Ext.refl _⟩
theorem gH (p:Int) (l:List Int):aN p l=(inB p 1 5&&(decide ((l.length:Int)=cntC p)&&(decide (l[0]?.getD 0=0)&&!l.any (fun x=>!inB x (-500) 500)))):=by
 unfold aN;have:(!l.any (fun x=>!inB x (-500) 500))=l.all (fun x=>inB x (-500) 500):=by rw [List.not_any_eq_all_not];simp
 rw [this];cases l.all (fun x=>inB x (-500) 500) <;> simp
set_option maxHeartbeats 1000000 in
theorem gq {w:World} {p:Int} {a:Option Addr} {n cap:Nat} {l:List Int} (h:Ints w a n cap l) :
 Calls Tryz.prog 130 #[pair p a n cap] w fun e w'=>e=.returned (.bool (aN p l))/\Ext w w':=by
 have h1:=h.alloc (.cells #[.int .i64 p,.slice a n cap] 29);have HX:=ae (Ext.alloc w (.cells #[.int .i64 p,.slice a n cap] 29));have hn:=h.hcap;have hm:=h.hmax;have HL:=ae h.hlen;clear h;cases hp:inB p 1 5
 ·have HP:=ae hp;go_enter Tryz.func130,Tryz.ntmps130
  go_wp2
  go_quiet ((first|(go_at_call 80;exact bM (aX _ _ _ _))))
  go_wp2
  go_ret;exact ⟨ag (by rw [gH,HP.out];rfl),below_drewN (Ext.alloc _ _) _⟩
 ·have HP:=ae hp;obtain ⟨m,rfl⟩:∃ m:Nat,p=m:=⟨p.toNat,by unfold inB at hp;simp at hp;omega⟩;have hm1:1<=m/\m<=5:=by unfold inB at hp;simp at hp;omega
  obtain ⟨hm1,hm5⟩:=hm1;have hwp:IntKind.i64.wrap ((2:Int) ^ m)=(cN m:Int):=by
   have h1:=fQ m;have h2:=iz m hm5;rw [IntKind.wrap_i64,jn];omega
  have hwp':wrap64 ((2:Int) ^ m)=(cN m:Int):=(wrap_pow m hm5).trans (jn m).symm;have HC:=ae (iF m hm5);have hN:=cX m hm5;cases hl:((n:Int) != (cN m:Int))
  ·have hnm:n=cN m:=Int.ofNat.inj (show (n:Int)=(cN m:Int) by simpa using hl);have HNM:=ae hnm;have hpos:0<n:=by omega
   obtain ⟨b,off,rfl,hc⟩:=h1.at hpos;rw [Nat.add_zero] at hc;clear hnm;cases h0:(l[0]?.getD 0 != 0)
   ·have HZ:=ae h0;have HI:=ae h1;go_enter Tryz.func130,Tryz.ntmps130
    go_wp2
    go_quiet ((first|(go_at_call 80;exact bM (aX _ _ _ _))))
    go_wp2_with fail;refine (eh (HI.out.drewN _) lj (jR _)).mono ?_;rintro e w1 ⟨rfl,hx⟩
    go_wp2
    go_ret;refine ⟨ag ?_,Ext.trans (below_drewN HX.out _) hx⟩;rw [gH,HP.out,HC.out,HL.out,HNM.out,decide_eq_true rfl];have:l[0]?.getD 0=0:=by simpa using HZ.out
    rw [decide_eq_true this]
    rfl
   ·have HZ:=ae h0;go_enter Tryz.func130,Tryz.ntmps130
    go_wp2
    go_quiet ((first|(go_at_call 80;exact bM (aX _ _ _ _))))
    go_wp2
    go_ret;refine ⟨ag ?_,below_drewN HX.out _⟩;have:¬ (l[0]?.getD 0=0):=by simpa using HZ.out
    rw [gH,decide_eq_false this];simp
  ·have HNE:=ae hl;go_enter Tryz.func130,Tryz.ntmps130
   go_wp2
   go_quiet ((first|(go_at_call 80;exact bM (aX _ _ _ _))))
   go_wp2
   go_ret;refine ⟨ag ?_,below_drewN HX.out _⟩;have:¬ ((l.length:Int)=cntC (m:Int)):=by rw [HL.out,HC.out];have:=HNE.out;simpa using this
   rw [gH,decide_eq_false this];simp
def pivM (M:List (List Int)) (c d:Nat):Nat:=match (M.drop d).findIdx? (fun r=>r[c]?.getD 0 != 0) with|some k=>d+k|none=>M.length
def swp {α:Type} [Inhabited α] (l:List α) (a b:Nat):List α:=(l.set a (l[b]?.getD default)).set b (l[a]?.getD default)
theorem cu {α:Type} [Inhabited α] (l:List α) (a b:Nat):(swp l a b).length=l.length:=by simp [swp]
theorem gn {α:Type} [Inhabited α] {l:List α} {a b:Nat} (ha:a<l.length) (hb:b<l.length) (i:Nat):(swp l a b)[i]?.getD default=if i=b then l[a]?.getD default else if i=a then l[b]?.getD default else l[i]?.getD default:=by
 unfold swp;by_cases h1:i=b
 ·subst h1;rw [if_pos rfl];simp [hb]
 ·rw [if_neg h1,List.getElem?_set_ne (Ne.symm h1)];by_cases h2:i=a
  ·subst h2;rw [if_pos rfl];simp [ha]
  ·rw [if_neg h2,List.getElem?_set_ne (Ne.symm h2)]
theorem swp_comm {α:Type} [Inhabited α] (l:List α) {a b:Nat} (ha:a<l.length) (hb:b<l.length):swp l a b=swp l b a:=by
 apply List.ext_getElem?
 intro i;by_cases hi:i<l.length
 ·have h1:=gn ha hb i;have h2:=gn hb ha i;have e:(if i=b then l[a]?.getD default else if i=a then l[b]?.getD default else l[i]?.getD default)=(if i=a then l[b]?.getD default else if i=b then l[a]?.getD default else l[i]?.getD default):=by
   by_cases h3:i=b
   ·subst h3;by_cases h4:i=a
    ·subst h4;simp
    ·simp [h4]
   ·simp [h3]
  rw [e,<-h2] at h1;have l1:i<(swp l a b).length:=by rw [cu];exact hi
  have l2:i<(swp l b a).length:=by rw [cu];exact hi
  rw [List.getElem?_eq_getElem l1,List.getElem?_eq_getElem l2] at h1 ⊢
  simpa using h1
 ·rw [List.getElem?_eq_none (by rw [cu];omega),List.getElem?_eq_none (by rw [cu];omega)]
def mixR (c:Nat) (p r:List Int):List Int:=(List.range r.length).map fun j=>r[j]?.getD 0*p[c]?.getD 0-r[c]?.getD 0*p[j]?.getD 0
def gcdL (l:List Int):Int:=l.foldl gI 0
def bH (c:Nat) (p r:List Int):List Int:=if r[c]?.getD 0=0 then r else (mixR c p r).map fun x=>x.tdiv (max (gcdL (mixR c p r)) 1)
theorem dS (c:Nat) (p r:List Int):(mixR c p r).length=r.length:=by simp [mixR]
theorem su (c:Nat) (p r:List Int):(bH c p r).length=r.length:=by unfold bH;split <;> simp [dS]
theorem fq {c:Nat} {p r:List Int} {j:Nat} (h:j<r.length):(mixR c p r)[j]?.getD 0=r[j]?.getD 0*p[c]?.getD 0-r[c]?.getD 0*p[j]?.getD 0:=by simp [mixR,h]
def redM (e:Nat->List Int->List Int->List Int) (c:Nat) (M:List (List Int)) (d t:Nat):List (List Int):=(List.range M.length).map fun i=>if d<i/\i<t then e c (M[d]?.getD []) (M[i]?.getD []) else M[i]?.getD []
theorem de (e:Nat->List Int->List Int->List Int) (c:Nat) (M:List (List Int)) (d t:Nat):(redM e c M d t).length=M.length:=by simp [redM]
theorem ft (e:Nat->List Int->List Int->List Int) (c:Nat) (M:List (List Int)) (d t:Nat) {i:Nat} (h:i<M.length):(redM e c M d t)[i]?.getD []=if d<i/\i<t then e c (M[d]?.getD []) (M[i]?.getD []) else M[i]?.getD []:=by simp [redM,h]
theorem iO {l l':List (List Int)} (hl:l.length=l'.length) (h:∀ i,i<l.length->l[i]?.getD []=l'[i]?.getD []):l=l':=by
 apply List.ext_getElem hl
 intro i h1 h2;have:=h i h1;rw [List.getElem?_eq_getElem h1,List.getElem?_eq_getElem h2] at this
 simpa using this
theorem lL (e:Nat->List Int->List Int->List Int) (c:Nat) (M:List (List Int)) (d:Nat):redM e c M d (d+1)=M:=by
 refine iO (de _ _ _ _ _) fun i hi=>?_
 rw [de] at hi;rw [ft _ _ _ _ _ hi,if_neg (by omega)]
theorem jw (e:Nat->List Int->List Int->List Int) (c:Nat) (M:List (List Int)) (d t:Nat) (h:d<t) (ht:t<M.length):(redM e c M d t).set t (e c (M[d]?.getD []) (M[t]?.getD []))=redM e c M d (t+1):=by
 refine iO (by simp [de]) fun i hi=>?_
 rw [List.length_set,de] at hi;rw [ft _ _ _ _ _ hi];by_cases hit:i=t
 ·subst hit;rw [if_pos ⟨h,by omega⟩,List.getElem?_set_self (by rw [de];exact ht)];rfl
 ·rw [List.getElem?_set_ne (Ne.symm hit),ft _ _ _ _ _ hi];by_cases h2:d<i/\i<t
  ·rw [if_pos h2,if_pos ⟨h2.1,by omega⟩]
  ·rw [if_neg h2,if_neg (by omega)]
theorem fS (e:Nat->List Int->List Int->List Int) (c:Nat) (M:List (List Int)) (d t i:Nat) (h:i<M.length) (hi:t<=i ∨ i<=d):(redM e c M d t)[i]?.getD []=M[i]?.getD []:=by
 rw [ft _ _ _ _ _ h,if_neg (by omega)]
theorem tx {e:Nat->List Int->List Int->List Int} {c:Nat} {M:List (List Int)} {d t:Nat} (h:d<t) (ht:t<M.length) (he:e c (M[d]?.getD []) (M[t]?.getD [])=M[t]?.getD []):redM e c M d t=redM e c M d (t+1):=by
 rw [<-jw e c M d t h ht,he];refine iO (by simp) fun i hi=>?_
 rw [de] at hi;by_cases hit:i=t
 ·subst hit;rw [List.getElem?_set_self (by rw [de];exact hi),fS _ _ _ _ _ _ hi (by omega)];rfl
 ·rw [List.getElem?_set_ne (Ne.symm hit)]
def midL (m r:List Int) (j:Nat):List Int:=m.take j++r.drop j
theorem nd (m r:List Int):midL m r 0=r:=by simp [midL]
theorem oP {m r:List Int} (h:m.length=r.length):midL m r m.length=m:=by unfold midL;rw [List.take_length,h,List.drop_length,List.append_nil]
theorem qr {m r:List Int} (h:m.length=r.length) {j:Nat} (hj:j<r.length):(midL m r j)[j]?.getD 0=r[j]?.getD 0:=by
 unfold midL;have hl:(m.take j).length=j:=by simp;omega
 rw [List.getElem?_append_right (by omega),hl,List.getElem?_drop];simp
theorem midL_set {m r:List Int} (h:m.length=r.length) {j:Nat} (hj:j<r.length):(midL m r j).set j (m[j]?.getD 0)=midL m r (j+1):=by
 unfold midL;have hl:(m.take j).length=j:=by simp;omega
 rw [List.set_append_right _ _ (by omega),hl,Nat.sub_self,List.drop_eq_getElem_cons hj,List.set_cons_zero,cw (by omega),List.append_assoc]
 rfl
theorem set_same {M:List (List Int)} {i:Nat} {r:List Int} (hi:i<M.length) (h:M[i]?.getD []=r):M.set i r=M:=by
 refine iO (by simp) fun k hk=>?_
 rw [List.length_set] at hk;by_cases e:k=i
 ·subst e;rw [List.getElem?_set_self hi,h];rfl
 ·rw [List.getElem?_set_ne (Ne.symm e)]
theorem nO {M:List (List Int)} {i j:Nat} {m r:List Int} (hi:i<M.length) (hl:m.length=r.length) (hj:j<r.length):(M.set i (midL m r j)).set i (((M.set i (midL m r j))[i]?.getD []).set j (m[j]?.getD 0))=M.set i (midL m r (j+1)):=by
 rw [List.getElem?_set_self hi,Option.getD_some,List.set_set,midL_set hl hj]
def colM (e:Nat->List Int->List Int->List Int) (c:Nat) (s:List (List Int) × Nat):List (List Int) × Nat :=
 if pivM s.1 c s.2<s.1.length then (redM e c (swp s.1 s.2 (pivM s.1 c s.2)) s.2 s.1.length,s.2+1) else s
def runM (e:Nat->List Int->List Int->List Int) (M:List (List Int)):Nat->List (List Int) × Nat
 | 0=>(M,0)
 | c+1=>colM e c (runM e M c)
theorem dM {M:List (List Int)} {c d:Nat} (h:pivM M c d<M.length):d<=pivM M c d/\(M[pivM M c d]?.getD [])[c]?.getD 0 ≠ 0/\∀ i,d<=i->i<pivM M c d->(M[i]?.getD [])[c]?.getD 0=0:=by
 unfold pivM at h ⊢;cases hf:(M.drop d).findIdx? (fun r=>r[c]?.getD 0 != 0) with
 | none=>rw [hf] at h;simp at h
 | some k =>
   simp only;rw [List.findIdx?_eq_some_iff_getElem] at hf;obtain ⟨h1,h2,h3⟩:=hf;rw [List.length_drop] at h1;refine ⟨by omega,?_,fun i hi hi2=>?_⟩
   ·rw [List.getElem_drop] at h2;have:d+k<M.length:=by omega
    rw [List.getElem?_eq_getElem this];simpa using h2
   ·have h4:=h3 (i-d) (by omega);rw [List.getElem_drop] at h4;have:i<M.length:=by omega
    rw [List.getElem?_eq_getElem this];have e:d+(i-d)=i:=by omega
    simp only [e] at h4
    simpa using h4
theorem ga {M:List (List Int)} {c d:Nat} (h:¬ pivM M c d<M.length) (hd:d<=M.length):pivM M c d=M.length/\∀ i,d<=i->i<M.length->(M[i]?.getD [])[c]?.getD 0=0:=by
 unfold pivM at h ⊢;cases hf:(M.drop d).findIdx? (fun r=>r[c]?.getD 0 != 0) with
 | none =>
   refine ⟨rfl,fun i hi hi2=>?_⟩;rw [List.findIdx?_eq_none_iff] at hf;have:=hf (M[i]) (List.mem_drop_iff_getElem.2 ⟨i-d,by omega,by congr 1;omega⟩);rw [List.getElem?_eq_getElem hi2]
   simpa using this
 | some k =>
   rw [hf] at h;simp only at h;rw [List.findIdx?_eq_some_iff_getElem] at hf;obtain ⟨h1,_⟩:=hf;rw [List.length_drop] at h1;omega
theorem pivM_is {M:List (List Int)} {c d k:Nat} (hk:d<=k) (hkl:k<M.length) (h:(M[k]?.getD [])[c]?.getD 0 ≠ 0) (hz:∀ i,d<=i->i<k->(M[i]?.getD [])[c]?.getD 0=0):pivM M c d=k:=by
 by_cases hp:pivM M c d<M.length
 ·obtain ⟨h1,h2,h3⟩:=dM hp
  rcases Nat.lt_trichotomy (pivM M c d) k with h4|h4|h4
  ·exact absurd (hz _ h1 h4) h2
  ·exact h4
  ·exact absurd (h3 k hk h4) h
 ·exact absurd ((ga hp (by omega)).2 k hk hkl) h
theorem pivM_end {M:List (List Int)} {c d:Nat} (hd:d<=M.length) (hz:∀ i,d<=i->i<M.length->(M[i]?.getD [])[c]?.getD 0=0):pivM M c d=M.length:=by
 by_cases hp:pivM M c d<M.length
 ·obtain ⟨h1,h2,h3⟩:=dM hp;exact absurd (hz _ h1 hp) h2
 ·exact (ga hp hd).1
theorem qw (M:List (List Int)) (c:Nat) {d:Nat} (hd:d<=M.length):d<=pivM M c d/\pivM M c d<=M.length:=by
 by_cases hp:pivM M c d<M.length
 ·exact ⟨(dM hp).1,Nat.le_of_lt hp⟩
 ·rw [(ga hp hd).1];exact ⟨hd,Nat.le_refl _⟩
theorem tq {M:List (List Int)} {c d k:Nat} (hd:d<=M.length) (h1:d<=k) (h2:k<pivM M c d):(M[k]?.getD [])[c]?.getD 0=0:=by
 by_cases hp:pivM M c d<M.length
 ·exact (dM hp).2.2 k h1 h2
 ·have:=ga hp hd;exact this.2 k h1 (by omega)
def Good (n:Nat) (B:Int) (M:List (List Int)):Prop:=∀ i,i<M.length->(M[i]?.getD []).length=n/\∀ j:Nat,-B<=(M[i]?.getD [])[j]?.getD 0/\(M[i]?.getD [])[j]?.getD 0<=B
def bdM:Nat->Int
 | 0=>1
 | d+1=>2*(bdM d*bdM d)
theorem fD:∀ d,d<=4->1<=bdM d/\bdM d<=32768/\bdM d<=bdM (d+1):=by
 have:∀ d:Fin 5,1<=bdM d.val/\bdM d.val<=32768/\bdM d.val<=bdM (d.val+1):=by decide +kernel
 exact fun d hd=>this ⟨d,by omega⟩
theorem fR {x y B:Int} (h1:-B<=x) (h2:x<=B) (h3:-B<=y) (h4:y<=B):-(B*B)<=x*y/\x*y<=B*B:=by
 have hx:x.natAbs<=B.natAbs:=by omega
 have hy:y.natAbs<=B.natAbs:=by omega
 have h:(x*y).natAbs<=B.natAbs*B.natAbs:=by rw [Int.natAbs_mul];exact Nat.mul_le_mul hx hy
 have e:((B.natAbs*B.natAbs:Nat):Int)=B*B:=by
    rw [Int.natCast_mul];have:(B.natAbs:Int)=B:=by omega
    rw [this]
 omega
theorem oQ {c:Nat} {p r:List Int} {B:Int} (hp:∀ j:Nat,-B<=p[j]?.getD 0/\p[j]?.getD 0<=B) (hr:∀ j:Nat,-B<=r[j]?.getD 0/\r[j]?.getD 0<=B) (j:Nat) :
 -(2*(B*B))<=(mixR c p r)[j]?.getD 0/\(mixR c p r)[j]?.getD 0<=2*(B*B):=by
 by_cases h:j<r.length
 ·rw [fq h];have h1:=fR (hr j).1 (hr j).2 (hp c).1 (hp c).2;have h2:=fR (hr c).1 (hr c).2 (hp j).1 (hp j).2;omega
 ·rw [List.getElem?_eq_none (by rw [dS];omega)];simp only [Option.getD_none];have:=fR (hr 0).1 (hr 0).2 (hr 0).1 (hr 0).2;have h0:0<=B*B:=by
     have h1:=hr 0;have:0<=B:=by omega
     exact Int.mul_nonneg this this
  omega
theorem elim_bd {c:Nat} {p r:List Int} {B:Int} (hB:1<=B) (hp:∀ j:Nat,-B<=p[j]?.getD 0/\p[j]?.getD 0<=B) (hr:∀ j:Nat,-B<=r[j]?.getD 0/\r[j]?.getD 0<=B) (j:Nat) :
 -(2*(B*B))<=(bH c p r)[j]?.getD 0/\(bH c p r)[j]?.getD 0<=2*(B*B):=by
 have hBB:B<=B*B:=by have:=Int.mul_le_mul_of_nonneg_left hB (show 0<=B by omega);omega
 unfold bH
 split
 ·have:=hr j;omega
 ·have h1:=oQ (c:=c) hp hr j;by_cases h:j<r.length
  ·have e:((mixR c p r).map fun x=>x.tdiv (max (gcdL (mixR c p r)) 1))[j]?.getD 0=((mixR c p r)[j]?.getD 0).tdiv (max (gcdL (mixR c p r)) 1):=by
    simp [dS,h]
   rw [e];generalize (mixR c p r)[j]?.getD 0=x at *;have h2:(x.tdiv (max (gcdL (mixR c p r)) 1)).natAbs<=x.natAbs:=by rw [Int.natAbs_tdiv];exact Nat.div_le_self _ _
   omega
  ·rw [List.getElem?_eq_none (by simp [dS];omega)];simp only [Option.getD_none];omega
theorem gX {n:Nat} {B:Int} {M:List (List Int)} (h:Good n B M) {a b:Nat} (ha:a<M.length) (hb:b<M.length):Good n B (swp M a b):=by
 intro i hi;rw [cu] at hi;have:=gn ha hb i;change (swp M a b)[i]?.getD []=_ at this;rw [this]
 split
 ·exact h a ha
 ·split
  ·exact h b hb
  ·exact h i hi
theorem ks {n:Nat} {B B':Int} {M:List (List Int)} (h:Good n B M) (hBB:B<=B') {e:Nat->List Int->List Int->List Int} {c d t:Nat} (hd:d<M.length)
 (he:∀ p r:List Int,p.length=n->r.length=n->(∀ j:Nat,-B<=p[j]?.getD 0/\p[j]?.getD 0<=B)->(∀ j:Nat,-B<=r[j]?.getD 0/\r[j]?.getD 0<=B)->(e c p r).length=n/\∀ j:Nat,-B'<=(e c p r)[j]?.getD 0/\(e c p r)[j]?.getD 0<=B'):Good n B' (redM e c M d t):=by
 intro i hi;rw [de] at hi;rw [ft _ _ _ _ _ hi]
 split
 ·exact he _ _ (h d hd).1 (h i hi).1 (h d hd).2 (h i hi).2
 ·have:=h i hi;exact ⟨this.1,fun j=>by have:=this.2 j;omega⟩
def Tame (e:Nat->List Int->List Int->List Int):Prop:=∀ (B:Int) (n c:Nat) (p r:List Int),1<=B->p.length=n->r.length=n->(∀ j:Nat,-B<=p[j]?.getD 0/\p[j]?.getD 0<=B)->(∀ j:Nat,-B<=r[j]?.getD 0/\r[j]?.getD 0<=B)->(e c p r).length=n/\∀ j:Nat,-(2*(B*B))<=(e c p r)[j]?.getD 0/\(e c p r)[j]?.getD 0<=2*(B*B)
theorem lX:Tame bH:=fun B n c p r hB hp hr h1 h2=>⟨by rw [su,hr],fun j=>elim_bd hB h1 h2 j⟩
theorem pz:Tame mixR:=fun B n c p r hB hp hr h1 h2=>⟨by rw [dS,hr],fun j=>oQ h1 h2 j⟩
theorem gR {e:Nat->List Int->List Int->List Int} (he:Tame e) {n:Nat} {M:List (List Int)} (h:Good n 1 M):∀ c,c<=5->(runM e M c).2<=c/\(runM e M c).1.length=M.length/\(runM e M c).2<=M.length/\Good n (bdM (runM e M c).2) (runM e M c).1
 | 0,_=>⟨Nat.le_refl _,rfl,Nat.zero_le _,h⟩
 | c+1,hc=>by
   obtain ⟨h1,h2,h3,h4⟩:=gR he h c (by omega)
   show (colM e c (runM e M c)).2<=c+1/\(colM e c (runM e M c)).1.length=M.length/\(colM e c (runM e M c)).2<=M.length/\Good n (bdM (colM e c (runM e M c)).2) (colM e c (runM e M c)).1;unfold colM;generalize runM e M c=s at *
   split
   ·next hp =>
    have hb:=fD s.2 (by omega);have hps:=(dM hp).1;refine ⟨by simp only;omega,by simp only [de,cu];exact h2,by simp only;omega,?_⟩;refine ks (gX h4 (by omega) hp) hb.2.2 (by rw [cu];omega) fun p r hpl hrl h5 h6=>he _ n c p r hb.1 hpl hrl h5 h6
   ·exact ⟨by omega,h2,h3,h4⟩
def SimR (n:Nat) (a b:List Int):Prop:=∃ u v:Int,u ≠ 0/\v ≠ 0/\∀ j,j<n->u*a[j]?.getD 0=v*b[j]?.getD 0
theorem SimR.refl (n:Nat) (a:List Int):SimR n a a:=⟨1,1,by omega,by omega,fun _ _=>rfl⟩
theorem SimR.zero {n:Nat} {a b:List Int} (h:SimR n a b) {j:Nat} (hj:j<n):a[j]?.getD 0=0 ↔ b[j]?.getD 0=0:=by
 obtain ⟨u,v,hu,hv,h⟩:=h;have:=h j hj;constructor
 ·intro e;rw [e,Int.mul_zero] at this
  rcases Int.mul_eq_zero.1 this.symm with h|h
  ·exact absurd h hv
  ·exact h
 ·intro e;rw [e,Int.mul_zero] at this
  rcases Int.mul_eq_zero.1 this with h|h
  ·exact absurd h hu
  ·exact h
theorem gcdL_dvd (l:List Int):∀ (g:Int),(l.foldl gI g) ∣ g/\∀ x ∈ l,(l.foldl gI g) ∣ x:=by
 induction l with
 | nil=>intro g;exact ⟨Int.dvd_refl _,fun x hx=>absurd hx (by simp)⟩
 | cons a l ih =>
   intro g;obtain ⟨h1,h2⟩:=ih (gI g a);refine ⟨Int.dvd_trans h1 (me g a),fun x hx=>?_⟩
   rcases List.mem_cons.1 hx with rfl|hx
   ·exact Int.dvd_trans h1 (jJ g x)
   ·exact h2 x hx
theorem pM (l:List Int):∀ g:Int,0<=g->0<=l.foldl gI g:=by
 induction l with
 | nil=>exact fun g h=>h
 | cons a l ih=>exact fun g h=>ih _ (mU g a)
theorem tQ {l:List Int} {x:Int} (hx:x ∈ l):x.tdiv (max (gcdL l) 1)*max (gcdL l) 1=x:=by
 have h1:=(gcdL_dvd l 0).2 x hx;have h0:=pM l 0 (Int.le_refl _);change gcdL l ∣ x at h1;change 0<=gcdL l at h0;by_cases hg:gcdL l=0
 ·rw [hg] at h1 ⊢;have:x=0:=Int.zero_dvd.1 h1;subst this;simp
 ·rw [show max (gcdL l) 1=gcdL l by omega];exact Int.tdiv_mul_cancel h1
theorem sim_elim {n c:Nat} {p q r s:List Int} (hc:c<n) (hr:r.length=n) (hs:s.length=n) (h:SimR n p q) (k:SimR n r s) (hp:p[c]?.getD 0 ≠ 0):SimR n (bH c p r) (mixR c q s):=by
 have hq:q[c]?.getD 0 ≠ 0:=fun e=>hp ((h.zero hc).2 e)
 have hz:=k.zero hc;obtain ⟨u',v',hu',hv',h⟩:=h;obtain ⟨u,v,hu,hv,k⟩:=k;unfold bH
 split
 ·next h0 =>
  have s0:=hz.1 h0;refine ⟨u*q[c]?.getD 0,v,Int.mul_ne_zero hu hq,hv,fun j hj=>?_⟩;rw [fq (by omega),s0];have:=k j hj
  grind
 ·refine ⟨u*u'*max (gcdL (mixR c p r)) 1,v*v',Int.mul_ne_zero (Int.mul_ne_zero hu hu') (by omega),Int.mul_ne_zero hv hv',fun j hj=>?_⟩;have hj':j<(mixR c p r).length:=by rw [dS];omega
  have e1:((mixR c p r).map fun x=>x.tdiv (max (gcdL (mixR c p r)) 1))[j]?.getD 0=((mixR c p r)[j]?.getD 0).tdiv (max (gcdL (mixR c p r)) 1):=by simp [hj']
  have e2:=tQ (l:=mixR c p r) (x:=(mixR c p r)[j]?.getD 0) (by rw [List.getElem?_eq_getElem hj'];simp);rw [e1,fq (show j<s.length by omega)];have e3:=fq (c:=c) (p:=p) (r:=r) (j:=j) (by omega);generalize ((mixR c p r)[j]?.getD 0).tdiv (max (gcdL (mixR c p r)) 1)=z at *;generalize max (gcdL (mixR c p r)) 1=G at *;have k1:=k j hj;have k2:=k c hc;have h1:=h j hj;have h2:=h c hc;rw [e3] at e2;generalize r[j]?.getD 0=rj at *;generalize r[c]?.getD 0=rc at *;generalize s[j]?.getD 0=sj at *;generalize s[c]?.getD 0=sc at *;generalize p[j]?.getD 0=pj at *;generalize p[c]?.getD 0=pc at *;generalize q[j]?.getD 0=qj at *;generalize q[c]?.getD 0=qc at *;have a1:u*u'*G*z=u*u'*(rj*pc-rc*pj):=by rw [<-e2];grind
  rw [a1];have a2:u*u'*(rj*pc-rc*pj)=(u*rj)*(u'*pc)-(u*rc)*(u'*pj):=by grind
  rw [a2,k1,k2,h1,h2]
  grind
structure SimM (n:Nat) (M K:List (List Int)):Prop where
 len:M.length=K.length
 row:∀ i,i<M.length->SimR n (M[i]?.getD []) (K[i]?.getD [])
theorem sim_piv {n c d:Nat} {M K:List (List Int)} (hc:c<n) (hd:d<=M.length) (h:SimM n M K):pivM M c d=pivM K c d:=by
 by_cases hp:pivM M c d<M.length
 ·obtain ⟨h1,h2,h3⟩:=dM hp;refine (pivM_is h1 (by rw [<-h.len];exact hp) (fun e=>h2 (((h.row _ hp).zero hc).2 e)) fun i hi hi2=>((h.row i (by omega)).zero hc).1 (h3 i hi hi2)).symm
 ·obtain ⟨h1,h2⟩:=ga hp hd;rw [h1,h.len];exact (pivM_end (by rw [<-h.len];exact hd) fun i hi hi2=>((h.row i (by rw [h.len];exact hi2)).zero hc).1 (h2 i hi (by rw [h.len];exact hi2))).symm
theorem qD {n:Nat} {M:List (List Int)} (h:Good n 1 M) (hn:n<=5):∀ c,c<=n->SimM n (runM bH M c).1 (runM mixR M c).1/\(runM bH M c).2=(runM mixR M c).2
 | 0,_=>⟨⟨rfl,fun i _=>SimR.refl _ _⟩,rfl⟩
 | c+1,hc=>by
   obtain ⟨h1,h2⟩:=qD h hn c (by omega);obtain ⟨a1,a2,a3,a4⟩:=gR lX h c (by omega);obtain ⟨b1,b2,b3,b4⟩:=gR pz h c (by omega)
   show SimM n (colM bH c (runM bH M c)).1 (colM mixR c (runM mixR M c)).1/\(colM bH c (runM bH M c)).2=(colM mixR c (runM mixR M c)).2;generalize runM bH M c=s at *;generalize runM mixR M c=t at *;obtain ⟨S,d⟩:=s;obtain ⟨T,d'⟩:=t;simp only at *;subst h2;have hpv:=sim_piv (show c<n by omega) (show d<=S.length by omega) h1;unfold colM;simp only;rw [<-hpv];by_cases hp:pivM S c d<S.length
   ·rw [if_pos hp,if_pos (by rw [<-h1.len];exact hp)];obtain ⟨p1,p2,p3⟩:=dM hp;have hlen:=h1.len;have hdS:d<S.length:=by omega
    refine ⟨⟨by simp [de,cu,hlen],fun i hi=>?_⟩,rfl⟩;rw [de,cu] at hi;have sw:∀ i,i<S.length->SimR n ((swp S d (pivM S c d))[i]?.getD []) ((swp T d (pivM S c d))[i]?.getD []):=by
     intro i hi;have e1:=gn hdS hp i;have e2:=gn (l:=T) (show d<T.length by omega) (show pivM S c d<T.length by omega) i;change (swp S d (pivM S c d))[i]?.getD []=_ at e1;change (swp T d (pivM S c d))[i]?.getD []=_ at e2;rw [e1,e2]
     split
     ·exact h1.row d hdS
     ·split
      ·exact h1.row _ hp
      ·exact h1.row i hi
    rw [ft _ _ _ _ _ (by rw [cu];exact hi),ft _ _ _ _ _ (by rw [cu];omega),<-hlen]
    split
    ·next hdi =>
     have g1:=gX a4 hdS hp;have g2:=gX b4 (show d<T.length by omega) (show pivM S c d<T.length by omega);refine sim_elim (by omega) (g1 i (by rw [cu];exact hi)).1 (g2 i (by rw [cu];omega)).1 (sw d hdS) (sw i hi) ?_;have e1:=gn hdS hp d;change (swp S d (pivM S c d))[d]?.getD []=_ at e1;rw [e1];by_cases hdp:d=pivM S c d
     ·rw [if_pos hdp];rw [<-hdp] at p2;exact p2
     ·rw [if_neg hdp,if_pos rfl];exact p2
    ·exact sw i hi
   ·rw [if_neg hp,if_neg (by rw [<-h1.len];exact hp)];exact ⟨h1,rfl⟩
def digR (n:Nat) (s:Int):List Int:=(List.range n).map fun (k:Nat)=>bitI (hasP s (k:Int))
theorem gT (n:Nat) (s:Int):(digR n s).length=n:=by simp [digR]
theorem mO (n:Nat) (s:Int):digR n s++[bitI (hasP s (n:Int))]=digR (n+1) s:=by simp [digR,List.range_succ]
theorem iH (n:Nat) (l:List Int):Good n 1 (l.map (digR n)):=by
 intro i hi;have hi':i<l.length:=by simpa using hi
 have e:(l.map (digR n))[i]?.getD []=digR n (l[i]):=by simp [hi']
 rw [e];refine ⟨gT _ _,fun j=>?_⟩;by_cases hj:j<n
 ·simp only [digR,List.getElem?_map,List.getElem?_range hj,Option.map_some,Option.getD_some];unfold bitI;split <;> omega
 ·rw [List.getElem?_eq_none (by rw [gT];omega)];simp
def eH (n:Int) (l:List Int):Int:=if inB n 1 5=true then ((runM bH (l.map (digR n.toNat)) n.toNat).2:Int) else 0
def fV (n:Int) (l:List Int):Int:=if inB n 1 5=true then ((runM mixR (l.map (digR n.toNat)) n.toNat).2:Int) else 0
theorem nu (n:Int) (l:List Int):eH n l=fV n l:=by
 unfold eH fV
 split
 ·next h =>
  simp only [inB,Bool.and_eq_true,decide_eq_true_eq] at h;rw [(qD (iH n.toNat l) (by omega) n.toNat (Nat.le_refl _)).2]
 ·rfl
structure Mat (w:World) (base:Nat) (a:Option Addr) (N cap:Nat) (vs:List Value) (M:List (List Int)):Prop where
 own:OwnV w base (.slice a N cap) vs
 rows:bj w base vs M
theorem Mat.vlen {w:World} {base:Nat} {a:Option Addr} {N cap:Nat} {vs:List Value} {M:List (List Int)} (h:Mat w base a N cap vs M):vs.length=N:=h.own.len
theorem Mat.len {w:World} {base:Nat} {a:Option Addr} {N cap:Nat} {vs:List Value} {M:List (List Int)} (h:Mat w base a N cap vs M):M.length=N:=by rw [<-h.rows.len];exact h.own.len
theorem Mat.cap {w:World} {base:Nat} {a:Option Addr} {N cap:Nat} {vs:List Value} {M:List (List Int)} (h:Mat w base a N cap vs M):N<=cap/\cap<=9223372036854775807:=by
 obtain ⟨a',c',he,h1,h2⟩:=h.own.form;simp only [Value.slice.injEq] at he;obtain ⟨_,h3,rfl⟩:=he;exact ⟨by omega,h2⟩
theorem Mat.ext {w w':World} {base:Nat} {a:Option Addr} {N cap:Nat} {vs:List Value} {M:List (List Int)} (h:Mat w base a N cap vs M) (hx:Ext w w'):Mat w' base a N cap vs M:=⟨h.own.ext hx,h.rows.ext hx⟩
theorem Mat.intss {w:World} {base:Nat} {a:Option Addr} {N cap:Nat} {vs:List Value} {M:List (List Int)} (h:Mat w base a N cap vs M):dV w a N cap M :=
 es.intss ⟨vs,h.own,h.rows⟩
theorem Mat.outer {w:World} {base:Nat} {a:Option Addr} {N cap:Nat} {vs:List Value} {M:List (List Int)} (h:Mat w base a N cap vs M) (hN:0<N):∃ G,a=some ⟨G,0,none⟩/\base<=G/\G<w.heap.size/\∀ j,w.frozen? ⟨G,j,none⟩=false:=by
 rcases h.own.2 with ⟨he,h0⟩|⟨g,cap',cur,he,hb,hg,_⟩
 ·simp only [Value.slice.injEq] at he;omega
 ·simp only [Value.slice.injEq] at he;obtain ⟨rfl,_⟩:=he;exact ⟨g,rfl,hb,lt_of_block hg,fun j=>frozen_of_row w g j cur _ hg⟩
theorem Mat.row {w:World} {base G N cap:Nat} {vs:List Value} {M:List (List Int)} (h:Mat w base (some ⟨G,0,none⟩) N cap vs M) {i n:Nat} (hi:i<N) (hn:(M[i]?.getD []).length=n) (h1:1<=n) :
 ∃ g c,vs[i]?.getD undef=.slice (some ⟨g,0,none⟩) n c/\w.cell? ⟨G,i,none⟩=some (.slice (some ⟨g,0,none⟩) n c)/\OwnI w base (.slice (some ⟨g,0,none⟩) n c) (M[i]?.getD [])/\g ≠ G/\base<=g/\g<w.heap.size/\n<=c/\c<=9223372036854775807:=by
 have hr:=h.rows.row i (by rw [h.len];exact hi);obtain ⟨a',c,he,hc1,hc2⟩:=hr.form;rw [he] at hr;rw [hn] at he hr hc1;obtain ⟨g,rfl,hb,_,hgl⟩:=hr.block (k:=0) (by omega);obtain ⟨G',hG,_,hc⟩:=h.own.cell hi;simp only [Option.some.injEq,Addr.mk.injEq,and_true] at hG;subst hG;refine ⟨g,c,he,?_,hr,fun e=>hr.apart h.own g rfl (by subst e;rfl),hb,hgl,hc1,hc2⟩;rw [hc i hi,<-he];have:i<vs.length:=by rw [h.vlen];exact hi
 simp [this]
theorem Mat.inrow {w:World} {base G N cap:Nat} {vs:List Value} {M:List (List Int)} (h:Mat w base (some ⟨G,0,none⟩) N cap vs M) {i n g c:Nat} (hi:i<N) (hv:vs[i]?.getD undef=.slice (some ⟨g,0,none⟩) n c) (j:Nat) (x:Int) :
 Mat (w.setCell ⟨g,j,none⟩ (.int .i64 x)) base (some ⟨G,0,none⟩) N cap vs (M.set i ((M[i]?.getD []).set j x)):=by
 have hil:i<M.length:=by rw [h.len];exact hi
 have hr:=h.rows.row i hil;rw [hv] at hr;have hgG:g ≠ G:=fun e=>hr.apart h.own g rfl (by subst e;rfl)
 refine ⟨h.own.keep fun k hk=>heap_setCell_other _ _ _ _ (by simp only [Value.ownBlock,Option.some.injEq] at hk;show k ≠ g;omega),?_⟩;refine ⟨by rw [List.length_set];exact h.rows.len,fun k hk=>?_,fun a b k hab hb=>h.rows.apart a b k hab (by rw [List.length_set] at hb;exact hb)⟩;rw [List.length_set] at hk;by_cases hki:k=i
 ·subst hki;rw [hv,List.getElem?_set_self hil];exact hr.set j x
 ·rw [List.getElem?_set_ne (Ne.symm hki)];refine (h.rows.row k hk).keep fun b hb=>heap_setCell_other _ _ _ _ fun e=>?_
  subst e
  rcases Nat.lt_or_gt_of_ne hki with hlt|hlt
  ·exact h.rows.apart k i _ hlt hil hb (by rw [hv];rfl)
  ·exact h.rows.apart i k _ hlt hk (by rw [hv];rfl) hb
theorem Mat.put {w0 w:World} {base G N cap:Nat} {vs:List Value} {M:List (List Int)} (h:Mat w0 base (some ⟨G,0,none⟩) N cap vs M) (hx:Ext w0 w) (hb:base<=w0.heap.size) {v:Value} {l:List Int} (ho:OwnI w w0.heap.size v l) {i:Nat} (hi:i<N) :
 Mat (w.setCell ⟨G,i,none⟩ v) base (some ⟨G,0,none⟩) N cap (vs.set i v) (M.set i l):=by
 have hil:i<M.length:=by rw [h.len];exact hi
 have hvl:i<vs.length:=by rw [h.vlen];exact hi
 have hW:=h.ext hx;obtain ⟨G',hG,hbG,hGl,_⟩:=h.outer (by omega);simp only [Option.some.injEq,Addr.mk.injEq,and_true] at hG;subst hG;have hother:∀ k,k ≠ G->(w.setCell ⟨G,i,none⟩ v).heap[k]?=w.heap[k]?:=fun k hk=>heap_setCell_other _ _ _ _ hk
 refine ⟨?_,⟨by rw [List.length_set,List.length_set];exact h.rows.len,fun k hk=>?_,fun a b k hab hb2 hk hk2=>?_⟩⟩
 ·have ho:=hW.own;unfold OwnV at ho;rw [hW.vlen] at ho;have:=(World.ownsRow.stored ho i v).1;unfold OwnV;rw [List.length_set,hW.vlen];exact this
 ·rw [List.length_set] at hk;by_cases hki:k=i
  ·subst hki;rw [List.getElem?_set_self hvl,List.getElem?_set_self hil];exact (ho.keep fun b hb'=>hother b (by have:=(ho.lt b hb').1;omega)).mono hb
  ·rw [List.getElem?_set_ne (Ne.symm hki),List.getElem?_set_ne (Ne.symm hki)];refine (hW.rows.row k hk).keep fun b hb'=>hother b fun e=>?_
   subst e;exact (hW.rows.row k hk).apart hW.own _ hb' rfl
 ·rw [List.length_set] at hb2;by_cases hai:a=i
  ·subst hai;rw [List.getElem?_set_self hvl] at hk;rw [List.getElem?_set_ne (by omega)] at hk2;have h1:=(ho.lt k hk).1;have h2:=((h.rows.row b hb2).lt k hk2).2;omega
  ·rw [List.getElem?_set_ne (Ne.symm hai)] at hk;by_cases hbi:b=i
   ·subst hbi;rw [List.getElem?_set_self hvl] at hk2;have h1:=(ho.lt k hk2).1;have h2:=((h.rows.row a (by omega)).lt k hk).2;omega
   ·rw [List.getElem?_set_ne (Ne.symm hbi)] at hk2;exact h.rows.apart a b k hab hb2 hk hk2
def swpV (l:List Value) (a b:Nat):List Value:=(l.set a (l[b]?.getD undef)).set b (l[a]?.getD undef)
theorem py (l:List Value) (a b:Nat):(swpV l a b).length=l.length:=by simp [swpV]
theorem iD {l:List Value} {a b:Nat} (ha:a<l.length) (hb:b<l.length) (i:Nat):(swpV l a b)[i]?.getD undef=if i=b then l[a]?.getD undef else if i=a then l[b]?.getD undef else l[i]?.getD undef:=by
 unfold swpV;by_cases h1:i=b
 ·subst h1;rw [if_pos rfl,List.getElem?_set_self (by simp [hb])];rfl
 ·rw [if_neg h1,List.getElem?_set_ne (Ne.symm h1)];by_cases h2:i=a
  ·subst h2;rw [if_pos rfl,List.getElem?_set_self ha];rfl
  ·rw [if_neg h2,List.getElem?_set_ne (Ne.symm h2)]
theorem bj.apart' {w:World} {base:Nat} {vs:List Value} {L:List (List Int)} (h:bj w base vs L) {i j k:Nat} (hij:i ≠ j) (hi:i<L.length) (hj:j<L.length) (hk:(vs[i]?.getD undef).ownBlock=some k):(vs[j]?.getD undef).ownBlock ≠ some k:=by
 rcases Nat.lt_or_gt_of_ne hij with h1|h1
 ·exact h.apart i j k h1 hj hk
 ·exact fun e=>h.apart j i k h1 hi e hk
theorem Mat.swap {w:World} {base G N cap:Nat} {vs:List Value} {M:List (List Int)} (h:Mat w base (some ⟨G,0,none⟩) N cap vs M) {a b:Nat} (ha:a<N) (hb:b<N) :
 Mat ((w.setCell ⟨G,a,none⟩ (vs[b]?.getD undef)).setCell ⟨G,b,none⟩ (vs[a]?.getD undef)) base (some ⟨G,0,none⟩) N cap (swpV vs a b) (swp M a b):=by
 have hal:a<M.length:=by rw [h.len];exact ha
 have hbl:b<M.length:=by rw [h.len];exact hb
 have hva:a<vs.length:=by rw [h.vlen];exact ha
 have hvb:b<vs.length:=by rw [h.vlen];exact hb
 have hrow:∀ i,i<M.length->(swp M a b)[i]?.getD []=if i=b then M[a]?.getD [] else if i=a then M[b]?.getD [] else M[i]?.getD []:=fun i _=>gn hal hbl i
 have hother:∀ k,k ≠ G->((w.setCell ⟨G,a,none⟩ (vs[b]?.getD undef)).setCell ⟨G,b,none⟩ (vs[a]?.getD undef)).heap[k]?=w.heap[k]?:=fun k hk=>by rw [heap_setCell_other _ _ _ _ hk,heap_setCell_other _ _ _ _ hk]
 refine ⟨?_,⟨by rw [py,cu];exact h.rows.len,fun i hi=>?_,fun i j k hij hj hk hk2=>?_⟩⟩
 ·have ho:=h.own;unfold OwnV at ho;rw [h.vlen] at ho;have h1:=(World.ownsRow.stored ho a (vs[b]?.getD undef)).1;have h2:=(World.ownsRow.stored h1 b (vs[a]?.getD undef)).1;unfold OwnV;rw [py,h.vlen];exact h2
 ·rw [cu] at hi;have key:∀ k,k<M.length->OwnI ((w.setCell ⟨G,a,none⟩ (vs[b]?.getD undef)).setCell ⟨G,b,none⟩ (vs[a]?.getD undef)) base (vs[k]?.getD undef) (M[k]?.getD []):=fun k hk =>
   (h.rows.row k hk).keep fun c hc=>hother c fun e=>by subst e;exact (h.rows.row k hk).apart h.own _ hc rfl
  rw [iD hva hvb,hrow i hi]
  split
  ·exact key a hal
  ·split
   ·exact key b hbl
   ·exact key i hi
 ·rw [cu] at hj;rw [iD hva hvb] at hk hk2;have hi:i<M.length:=by omega
  have pick:∀ i,i<M.length->∃ s,s<M.length/\(if i=b then vs[a]?.getD undef else if i=a then vs[b]?.getD undef else vs[i]?.getD undef)=vs[s]?.getD undef/\s=(if i=b then a else if i=a then b else i):=fun i hi=>by
   split
   ·exact ⟨a,hal,rfl,rfl⟩
   ·split
    ·exact ⟨b,hbl,rfl,rfl⟩
    ·exact ⟨i,hi,rfl,rfl⟩
  obtain ⟨s,hs,e1,e1'⟩:=pick i hi;obtain ⟨t,ht,e2,e2'⟩:=pick j hj;rw [e1] at hk;rw [e2] at hk2;refine h.rows.apart' (i:=s) (j:=t) ?_ hs ht hk hk2;rw [e1',e2']
  split <;> split <;> (try split) <;> (try split) <;> omega
theorem bj.grownV {w w':World} {base base':Nat} {v:Value} {vs:List Value} {L:List (List Int)} (h:bj w base vs L) {us:List Value} (hv:OwnV w base' v us) (hg:w.grownBy w' v.ownBlock):bj w' base vs L :=
 h.keep fun i k hi hk=>hg.block k ((h.row i hi).lt k hk).2 fun e=>(h.row i hi).apart hv k hk e.symm
theorem dV.at' {w:World} {G N cap:Nat} {L:List (List Int)} (h:dV w (some ⟨G,0,none⟩) N cap L) {k:Nat} (hk:k<N) :
 ∃ a m c,w.cell? ⟨G,k,none⟩=some (.slice a m c)/\Ints w a m c (L[k]?.getD []):=by
 obtain ⟨b,off,a,m,c,he,hc,hr⟩:=h.at hk;simp only [Option.some.injEq,Addr.mk.injEq,and_true] at he;obtain ⟨rfl,rfl⟩:=he;rw [Nat.zero_add] at hc;exact ⟨a,m,c,hc,hr⟩
theorem dV.dropIf {w:World} {G N cap:Nat} {L:List (List Int)} (h:dV w (some ⟨G,0,none⟩) N cap L) {d:Nat} (hd:d<=N):dV w (if cap=d then some ⟨G,0,none⟩ else some ⟨G,d,none⟩) (N-d) (cap-d) (L.drop d):=by
 refine ⟨by rw [List.length_drop,h.hlen],by have:=h.hcap;omega,by have:=h.hmax;omega,fun k hk=>?_⟩;have hc:¬ cap=d:=by have:=h.hcap;omega
 rw [if_neg hc];refine ⟨G,d,rfl,fun k hk=>?_⟩;obtain ⟨a,m,c,h1,h2⟩:=h.at' (k:=d+k) (by omega);refine ⟨a,m,c,h1,?_⟩;rw [List.getElem?_drop];exact h2
end Go.Proofs.YthjjfkeacobikaaGreat
