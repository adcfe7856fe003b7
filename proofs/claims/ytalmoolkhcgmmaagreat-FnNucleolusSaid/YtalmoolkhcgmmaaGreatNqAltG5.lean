import Derived.Test.YtalmoolkhcgmmaaGreatNqAltG0
import Derived.Test.YtalmoolkhcgmmaaGreatNqAltG4
import Derived.Deep.RegionLaw
import Derived.Test.YtalmoolkhcgmmaaGreatNqAltG2
set_option linter.unusedVariables false
set_option linter.unusedSimpArgs false
namespace Go.Proofs.YtalmoolkhcgmmaaGreat
variable{a:j8}{l r m:j9}{w:World}{n c j i d k b base N G:Nat}{α:Type}{M L:j7}{B:Int}{vs:List Value}
set_option maxHeartbeats 16000000
set_option maxRecDepth 100000
open Go.RowKit
def xr(a:Int):Prop:=-1000000000000000000<=a/\a<=1000000000000000000
theorem tF(p:Int){q:Int}(h:q≠0):(p.tmod q).natAbs<q.natAbs:=by
 rw[Int.natAbs_tmod];exact Nat.mod_lt _ b9
theorem tE(p:Int){q:Int}(h:q≠0)(hq:xr q):xr (p.tmod q):=by
 have:=tF p h;unfold xr at *
 revert this
 generalize p.tmod q=r;intro this;omega
theorem iy(a b:Int)(w:World)(ha:xr a)(hb:xr b):
 Calls Tryz.prog 55 #[.int .i64 a,.int .i64 b] w fun e w'=>e=.returned (.int .i64 (gI a b))/\yd w w':=by
 go_enter Tryz.func55,Tryz.ntmps55
 go_wp2
 go_loopw [0,1] (fun x y wr=>∃p q:Int,x=.int .i64 p/\y=.int .i64 q/\b7 (gI p q=gI a b)/\b7 (xr p)/\b7 (xr q)/\yd w wr) (fun _ y _=>(intOf y).natAbs)
 case atStart=>exact⟨a,b,rfl,rfl,ae rfl,ae ha,ae hb,yd.refl _⟩
 case round =>
  obtain⟨p,q,rfl,rfl,HG,HP,HQ,hx⟩:=hrel;obtain⟨CG,Rn⟩:=HP.o;obtain⟨Au,BM⟩:=HQ.o;by_cases hq:q=0
  ·subst hq
   go_wp2
   all_goals
    go_ret;refine⟨aU ?_,hx⟩;have:=HG.o;rw[nQ]at this;omega
  ·have hqb:(q != 0)=true:=by simpa using hq
   have hqb':(q == 0)=false:=by simpa using hq
   have ht:=tF p hq;have HT:=ae ht;have I:=ae hq
   go_wp2
   go_quiet (fail)
   go_wp2
   go_roundw
   case rel=>exact⟨q,p.tmod q,rfl,by go_num,ae (by rw[sT];exact HG.o),HQ,ae (tE p I.o HQ.o),hx.trans ⟨_,rfl⟩⟩
   case measure=>have h:=HT.o;rw[Int.natAbs_tmod]at h;simp[intOf,Int.natAbs_tmod];omega
theorem ov(a b:Int)(w:World)(ha:xr a)(hb:xr b):
 Calls Tryz.prog 140 #[.int .i64 a,.int .i64 b] w fun e w'=>e=.returned (.int .i64 (gI a b))/\yd w w':=by
 have ha':=ha;have J:=hb;obtain⟨Ke,ES⟩:=ha';obtain⟨zN,zx⟩:=J;by_cases h1:a<0
 all_goals
  by_cases h2:b<0
  all_goals
   go_enter Tryz.func140,Tryz.ntmps140
   go_wp2
   go_loop [0,1,5] (fun x y z=>∃p q:Int,x=.int .i64 p/\y=.int .i64 q/\0<=p/\0<=q/\b7 (gI p q=gI a b)/\b7 (xr p)/\b7 (xr q)) (fun _ y _=>(intOf y).natAbs)
   case atStart =>
    first
     | exact⟨_,_,rfl,rfl,by omega,by omega,ae rfl,ae ha,ae hb⟩
     | exact⟨-a,_,by go_num,rfl,by omega,by omega,ae (im _ _),ae ⟨by omega,by omega⟩,ae hb⟩
     | exact⟨_,-b,rfl,by go_num,by omega,by omega,ae (kJ _ _),ae ha,ae ⟨by omega,by omega⟩⟩
     | exact⟨-a,-b,by go_num,by go_num,by omega,by omega,ae ((im _ _).trans (kJ _ _)),ae ⟨by omega,by omega⟩,ae ⟨by omega,by omega⟩⟩
   case round =>
    obtain⟨p,q,rfl,rfl,K,hq0,HG,HP,HQ⟩:=hrel;by_cases hq:q=0
    ·subst hq
     go_wp2
     go_ret;refine⟨aU ?_,yd.refl _⟩;have:=HG.o;rw[nQ]at this;omega
    ·have hqb':(q == 0)=false:=by simpa using hq
     have G5:0<q:=by omega
     have HT:=ae (Int.emod_lt_of_pos p G5);have Je:=ae (Int.emod_nonneg p hq);have I:=ae hq;have HM:=ae (Int.tmod_eq_emod_of_nonneg (b:=q) K)
     go_wp2
     go_round
     case rel=>exact⟨q,p % q,rfl,by go_num,by omega,Je.o,ae (by rw[<-HM.o,sT];exact HG.o),HQ,ae (by rw[<-HM.o];exact tE p I.o HQ.o)⟩
     case measure=>have:=HT.o;have:=Je.o;simp[intOf];omega
abbrev xO(x y:Int):Value:=.agg #[.int .i64 x,.int .i64 y]
abbrev BA(r:(Int×Int)×Bool):Value:=.tuple #[.agg #[.int .i64 r.1.1,.int .i64 r.1.2],.bool r.2]
theorem gH{a:Int}(h:xr a):xr (-a):=by unfold xr at *;omega
theorem mZ(n:Int){g:Int}(hg:1<=g)(hn:xr n):xr (n.tdiv g):=by
 have:=mi n g hg;unfold xr at *
 revert this
 generalize n.tdiv g=r;intro this;omega
theorem bz{a:Int}(h:xr a):IntKind.i64.wrap a=a/\wrap64 a=a:=by
 unfold xr at h;have:wrap64 a=a:=by unfold wrap64;omega
 exact⟨by rw[IntKind.wrap_i64];omega,this⟩
theorem az(x y:Int)(w:World):
 Calls Tryz.prog 103 #[xO x y] w fun e w'=>e=.returned (.bool (o5 (x,y)))/\Ext w w':=by
 have HX:=ae (Ext.alloc w (.cells #[.int .i64 x,.int .i64 y] 46));cases h1:wJ y 1 1000000000
 ·have H1:=ae h1;clear h1;go_enter Tryz.func103,Tryz.ntmps103
  go_wp2_with fail;refine(aK _ _ _ _).mono ?_;rw[H1.o];rintro e w1 ⟨rfl,rfl⟩
  go_wp2
  go_ret;exact⟨ag (by simp[o5,H1.o]),HX.o⟩
 ·have H1:=ae h1;have hy:xr y:=by simp only[wJ,Bool.and_eq_true,decide_eq_true_eq]at h1;exact⟨by omega,by omega⟩
  clear h1;cases h2:wJ x (-1000000000) 1000000000
  ·have H2:=ae h2;clear h2;go_enter Tryz.func103,Tryz.ntmps103
   go_wp2_with fail;refine(aK _ _ _ _).mono ?_;rw[H1.o];rintro e w1 ⟨rfl,rfl⟩;go_wp2_with fail;refine(aK _ _ _ _).mono ?_;rw[H2.o];rintro e w1 ⟨rfl,rfl⟩
   go_wp2
   go_ret;exact⟨ag (by simp[o5,H2.o]),HX.o⟩
  ·have H2:=ae h2;have hx:xr x:=by simp only[wJ,Bool.and_eq_true,decide_eq_true_eq]at h2;exact⟨by omega,by omega⟩
   clear h2;have HC:=ae (iy x y (w.alloc (.cells #[.int .i64 x,.int .i64 y] 46)) hx hy);go_enter Tryz.func103,Tryz.ntmps103
   go_wp2_with fail;refine(aK _ _ _ _).mono ?_;rw[H1.o];rintro e w1 ⟨rfl,rfl⟩;go_wp2_with fail;refine(aK _ _ _ _).mono ?_;rw[H2.o];rintro e w1 ⟨rfl,rfl⟩;go_wp2_with fail;refine HC.o.mono ?_;rintro e w1 ⟨rfl,hd⟩
   go_wp2
   go_ret;exact⟨ag (by simp only[o5,H1.o,H2.o];by_cases h:gI x y=1<;>simp[h]),HX.o.trans hd.ext⟩
theorem aO(x y:Int)(w:World):
 Calls Tryz.prog 121 #[xO x y] w fun e w'=>e=.returned (.bool (o5 (x,y)))/\Ext w w':=by
 have HX:=ae (Ext.alloc w (.cells #[.int .i64 x,.int .i64 y] 46));cases h1:wJ y 1 1000000000
 ·have H1:=ae h1;clear h1;go_enter Tryz.func121,Tryz.ntmps121
  go_wp2_with fail;refine(bG _ _ _ _).mono ?_;rw[H1.o];rintro e w1 ⟨rfl,rfl⟩
  go_wp2
  go_ret;exact⟨ag (by simp[o5,H1.o]),HX.o⟩
 ·have H1:=ae h1;have hy:xr y:=by simp only[wJ,Bool.and_eq_true,decide_eq_true_eq]at h1;exact⟨by omega,by omega⟩
  clear h1;cases h2:wJ x (-1000000000) 1000000000
  ·have H2:=ae h2;clear h2;go_enter Tryz.func121,Tryz.ntmps121
   go_wp2_with fail;refine(bG _ _ _ _).mono ?_;rw[H1.o];rintro e w1 ⟨rfl,rfl⟩;go_wp2_with fail;refine(bG _ _ _ _).mono ?_;rw[H2.o];rintro e w1 ⟨rfl,rfl⟩
   go_wp2
   go_ret;exact⟨ag (by simp[o5,H2.o]),HX.o⟩
  ·have H2:=ae h2;have hx:xr x:=by simp only[wJ,Bool.and_eq_true,decide_eq_true_eq]at h2;exact⟨by omega,by omega⟩
   clear h2;have HC:=ae (ov x y (w.alloc (.cells #[.int .i64 x,.int .i64 y] 46)) hx hy);go_enter Tryz.func121,Tryz.ntmps121
   go_wp2_with fail;refine(bG _ _ _ _).mono ?_;rw[H1.o];rintro e w1 ⟨rfl,rfl⟩;go_wp2_with fail;refine(bG _ _ _ _).mono ?_;rw[H2.o];rintro e w1 ⟨rfl,rfl⟩;go_wp2_with fail;refine HC.o.mono ?_;rintro e w1 ⟨rfl,hd⟩
   go_wp2
   go_ret;exact⟨ag (by simp only[o5,H1.o,H2.o];by_cases h:gI x y=1<;>simp[h]),HX.o.trans hd.ext⟩
theorem kK(n d:Int)(w:World):
 Calls Tryz.prog 104 #[.int .i64 n,.int .i64 d] w fun e w'=>e=.returned (BA (aL n d))/\Ext w w':=by
 have HX:=ae (Ext.alloc w (.cells #[.int .i64 0,.int .i64 0] 46));by_cases h0:d=0
 ·have HR:=ae (show aL n d=((0,0),false)by unfold aL;rw[if_pos (.inl h0)]);subst h0;go_enter Tryz.func104,Tryz.ntmps104
  go_wp2
  rw[HR.o];refine bodyPost_ret (v:=.tuple #[.agg #[.int .i64 0,.int .i64 0],.bool false]) (by simp[results,Tryz.results104,go_sem]) rfl ⟨rfl,HX.o⟩
 have h0b:(d == 0)=false:=by simpa using h0
 cases h1:wJ n (-1000000000000000000) 1000000000000000000
 ·have H1:=ae h1;clear h1;have HR:=ae (show aL n d=((0,0),false)by unfold aL;rw[if_pos (.inr (.inl H1.o))]);go_enter Tryz.func104,Tryz.ntmps104
  go_wp2_with fail;refine(aK _ _ _ _).mono ?_;rw[H1.o];rintro e w1 ⟨rfl,rfl⟩
  go_wp2
  rw[HR.o];refine bodyPost_ret (v:=.tuple #[.agg #[.int .i64 0,.int .i64 0],.bool false]) (by simp[results,Tryz.results104,go_sem]) rfl ⟨rfl,HX.o⟩
 have H1:=ae h1;have hn:xr n:=by simp only[wJ,Bool.and_eq_true,decide_eq_true_eq]at h1;exact⟨by omega,by omega⟩
 clear h1;cases h2:wJ d (-1000000000000000000) 1000000000000000000
 ·have H2:=ae h2;clear h2;have HR:=ae (show aL n d=((0,0),false)by unfold aL;rw[if_pos (.inr (.inr H2.o))]);go_enter Tryz.func104,Tryz.ntmps104
  go_wp2_with fail;refine(aK _ _ _ _).mono ?_;rw[H1.o];rintro e w1 ⟨rfl,rfl⟩;go_wp2_with fail;refine(aK _ _ _ _).mono ?_;rw[H2.o];rintro e w1 ⟨rfl,rfl⟩
  go_wp2
  rw[HR.o];refine bodyPost_ret (v:=.tuple #[.agg #[.int .i64 0,.int .i64 0],.bool false]) (by simp[results,Tryz.results104,go_sem]) rfl ⟨rfl,HX.o⟩
 have H2:=ae h2;have hd:xr d:=by simp only[wJ,Bool.and_eq_true,decide_eq_true_eq]at h2;exact⟨by omega,by omega⟩
 clear h2;have CK:=kl n h0;have R:=I8 n h0;have hq:=mZ n CK hn;have K:=mZ d CK hd;by_cases h3:d<0
 ·have HC:=ae (iy n d (w.alloc (.cells #[.int .i64 0,.int .i64 0] 46)) hn hd);obtain⟨g,hg⟩:=b8 (gI n d);rw[<-hg]at CK R HC hq K;have HG:=ae hg;have W:g<=1000000000000000000:=by obtain⟨_,_⟩:=hd;omega
  have Fj:¬g=0:=by omega
  have hgn:(-g == 0)=false:=by simp;omega
  obtain⟨Bj,H6⟩:=hn;obtain⟨FI,U⟩:=hd;obtain⟨J,Au⟩:=b8 (-(n.tdiv g));obtain⟨I,BM⟩:=b8 (-(d.tdiv g));have HR:=ae (show aL n d=zB (J,I)by unfold aL;rw[if_neg (by simp[h0,H1.o,H2.o]),if_pos h3,<-HG.o,Int.tdiv_neg,Int.tdiv_neg,Au,BM]);obtain⟨e1,e2⟩:=bz (gH hq);obtain⟨e3,e4⟩:=bz (gH K);rw[<-Au]at e1 e2;rw[<-BM]at e3 e4;have m1:(-n).tdiv g=J:=by rw[Int.neg_tdiv,Au]
  have m2:(-d).tdiv g=I:=by rw[Int.neg_tdiv,BM]
  have m3:n.tdiv (-g)=J:=by rw[Int.tdiv_neg,Au]
  have m4:d.tdiv (-g)=I:=by rw[Int.tdiv_neg,BM]
  have PN:=Au.symm;have Mp:=BM.symm;clear hq K hg R Au BM;cases hv:o5 (J,I)
  all_goals
   go_enter Tryz.func104,Tryz.ntmps104
   go_wp2_with fail;refine(aK _ _ _ _).mono ?_;rw[H1.o];rintro e w1 ⟨rfl,rfl⟩;go_wp2_with fail;refine(aK _ _ _ _).mono ?_;rw[H2.o];rintro e w1 ⟨rfl,rfl⟩;go_wp2_with fail;refine HC.o.mono ?_;rintro e w1 ⟨rfl,hd⟩;have hB:w1.heap[w.heap.size]?=some (.cells #[.int .i64 0,.int .i64 0] 46 (0,0)):=(hd.ext.block _ e7).trans (heap_alloc_new _ _);have HB:=ae hB;have LT:=ae (lt_of_block hB);have X1:=ae (HX.o.trans hd.ext);clear hd hB
   go_wp2
   go_region_law (fail)
   have X2:=ae ((X1.o.trans (Ext.alloc w1 (.cells #[.int .i64 J,.int .i64 I] 46))).trans (Ext.drew _));have HV:=ae (az J I ((w1.alloc (.cells #[.int .i64 J,.int .i64 I] 46)).drew));go_wp2_with fail;refine HV.o.mono ?_;rw[hv];rintro e w2 ⟨rfl,hx⟩;have lt:=LT.o;have hB:w2.heap[w.heap.size]?=some (.cells #[.int .i64 0,.int .i64 0] 46 (0,0)):=(hx.block _ (by simp;omega)).trans ((bX w1 (.cells #[.int .i64 J,.int .i64 I] 46) _ lt).trans HB.o);have hC:w2.heap[w1.heap.size]?=some (.cells #[.int .i64 J,.int .i64 I] 46 (0,0)):=(hx.block _ e7).trans (heap_alloc_new w1 (.cells #[.int .i64 J,.int .i64 I] 46));have O:w2.cell? ⟨w.heap.size,0,none⟩=some (.int .i64 0):=by rw[cell_of_row _ _ _ _ _ _ hB];rfl
   have b1:w2.cell? ⟨w.heap.size,1,none⟩=some (.int .i64 0):=by rw[cell_of_row _ _ _ _ _ _ hB];rfl
   have c0:w2.cell? ⟨w1.heap.size,0,none⟩=some (.int .i64 J):=by rw[cell_of_row _ _ _ _ _ _ hC];rfl
   have c1:w2.cell? ⟨w1.heap.size,1,none⟩=some (.int .i64 I):=by rw[cell_of_row _ _ _ _ _ _ hC];rfl
   have fb:∀o,w2.frozen? ⟨w.heap.size,o,none⟩=false:=fun o=>frozen_of_row _ _ _ _ _ hB
   have X3:=ae (X2.o.trans hx);clear hx hB hC lt
   go_wp2
   rw[HR.o]
  ·refine bodyPost_ret (v:=.tuple #[.agg #[.int .i64 0,.int .i64 0],.bool false]) (by simp[results,Tryz.results104,go_sem,O,b1]) rfl ⟨by simp[zB,hv],?_⟩;exact(X3.o.setCell e7 _).setCell e7 _
  ·refine bodyPost_ret (v:=.tuple #[.agg #[.int .i64 J,.int .i64 I],.bool true]) (by simp[results,Tryz.results104,go_sem,O,b1]) rfl ⟨by simp[zB,hv],?_⟩;exact(X3.o.setCell e7 _).setCell e7 _
 ·have HC:=ae (iy n d (w.alloc (.cells #[.int .i64 0,.int .i64 0] 46)) hn hd);obtain⟨g,hg⟩:=b8 (gI n d);rw[<-hg]at CK R HC hq K;have HG:=ae hg;have W:g<=1000000000000000000:=by obtain⟨_,_⟩:=hd;omega
  have Fj:¬g=0:=by omega
  obtain⟨Bj,H6⟩:=hn;obtain⟨FI,U⟩:=hd;obtain⟨J,Au⟩:=b8 (n.tdiv g);obtain⟨I,BM⟩:=b8 (d.tdiv g);have HR:=ae (show aL n d=zB (J,I)by unfold aL;rw[if_neg (by simp[h0,H1.o,H2.o]),if_neg h3,<-HG.o,Au,BM]);have hm:d.tdiv g=d/g:=Int.tdiv_eq_ediv_of_nonneg b9;obtain⟨e1,e2⟩:=bz hq;obtain⟨e3,e4⟩:=bz K;rw[<-Au]at e1 e2;rw[<-BM]at e3 e4;have PN:=Au.symm;have Mp:=BM.symm;have hq3':d/g=I:=by rw[<-hm,BM]
  clear hq K hg R Au BM hm;cases hv:o5 (J,I)
  all_goals
   go_enter Tryz.func104,Tryz.ntmps104
   go_wp2_with fail;refine(aK _ _ _ _).mono ?_;rw[H1.o];rintro e w1 ⟨rfl,rfl⟩;go_wp2_with fail;refine(aK _ _ _ _).mono ?_;rw[H2.o];rintro e w1 ⟨rfl,rfl⟩;go_wp2_with fail;refine HC.o.mono ?_;rintro e w1 ⟨rfl,hd⟩;have hB:w1.heap[w.heap.size]?=some (.cells #[.int .i64 0,.int .i64 0] 46 (0,0)):=(hd.ext.block _ e7).trans (heap_alloc_new _ _);have HB:=ae hB;have LT:=ae (lt_of_block hB);have X1:=ae (HX.o.trans hd.ext);clear hd hB
   go_wp2
   go_region_law (fail)
   have X2:=ae ((X1.o.trans (Ext.alloc w1 (.cells #[.int .i64 J,.int .i64 I] 46))).trans (Ext.drew _));have HV:=ae (az J I ((w1.alloc (.cells #[.int .i64 J,.int .i64 I] 46)).drew));go_wp2_with fail;refine HV.o.mono ?_;rw[hv];rintro e w2 ⟨rfl,hx⟩;have lt:=LT.o;have hB:w2.heap[w.heap.size]?=some (.cells #[.int .i64 0,.int .i64 0] 46 (0,0)):=(hx.block _ (by simp;omega)).trans ((bX w1 (.cells #[.int .i64 J,.int .i64 I] 46) _ lt).trans HB.o);have hC:w2.heap[w1.heap.size]?=some (.cells #[.int .i64 J,.int .i64 I] 46 (0,0)):=(hx.block _ e7).trans (heap_alloc_new w1 (.cells #[.int .i64 J,.int .i64 I] 46));have O:w2.cell? ⟨w.heap.size,0,none⟩=some (.int .i64 0):=by rw[cell_of_row _ _ _ _ _ _ hB];rfl
   have b1:w2.cell? ⟨w.heap.size,1,none⟩=some (.int .i64 0):=by rw[cell_of_row _ _ _ _ _ _ hB];rfl
   have c0:w2.cell? ⟨w1.heap.size,0,none⟩=some (.int .i64 J):=by rw[cell_of_row _ _ _ _ _ _ hC];rfl
   have c1:w2.cell? ⟨w1.heap.size,1,none⟩=some (.int .i64 I):=by rw[cell_of_row _ _ _ _ _ _ hC];rfl
   have fb:∀o,w2.frozen? ⟨w.heap.size,o,none⟩=false:=fun o=>frozen_of_row _ _ _ _ _ hB
   have X3:=ae (X2.o.trans hx);clear hx hB hC lt
   go_wp2
   rw[HR.o]
  ·refine bodyPost_ret (v:=.tuple #[.agg #[.int .i64 0,.int .i64 0],.bool false]) (by simp[results,Tryz.results104,go_sem,O,b1]) rfl ⟨by simp[zB,hv],?_⟩;exact(X3.o.setCell e7 _).setCell e7 _
  ·refine bodyPost_ret (v:=.tuple #[.agg #[.int .i64 J,.int .i64 I],.bool true]) (by simp[results,Tryz.results104,go_sem,O,b1]) rfl ⟨by simp[zB,hv],?_⟩;exact(X3.o.setCell e7 _).setCell e7 _
theorem jt(n d:Int)(w:World):
 Calls Tryz.prog 90 #[.int .i64 n,.int .i64 d] w fun e w'=>e=.returned (BA (aL n d))/\Ext w w':=by
 have HX:=ae (Ext.alloc w (.cells #[.int .i64 0,.int .i64 0] 46));by_cases h0:d=0
 ·have HR:=ae (show aL n d=((0,0),false)by unfold aL;rw[if_pos (.inl h0)]);subst h0;go_enter Tryz.func90,Tryz.ntmps90
  go_wp2
  rw[HR.o];refine bodyPost_ret (v:=.tuple #[.agg #[.int .i64 0,.int .i64 0],.bool false]) (by simp[results,Tryz.results90,go_sem]) rfl ⟨rfl,HX.o⟩
 have h0b:(d == 0)=false:=by simpa using h0
 cases h1:wJ n (-1000000000000000000) 1000000000000000000
 ·have H1:=ae h1;clear h1;have HR:=ae (show aL n d=((0,0),false)by unfold aL;rw[if_pos (.inr (.inl H1.o))]);go_enter Tryz.func90,Tryz.ntmps90
  go_wp2_with fail;refine(bG _ _ _ _).mono ?_;rw[H1.o];rintro e w1 ⟨rfl,rfl⟩
  go_wp2
  rw[HR.o];refine bodyPost_ret (v:=.tuple #[.agg #[.int .i64 0,.int .i64 0],.bool false]) (by simp[results,Tryz.results90,go_sem]) rfl ⟨rfl,HX.o⟩
 have H1:=ae h1;have hn:xr n:=by simp only[wJ,Bool.and_eq_true,decide_eq_true_eq]at h1;exact⟨by omega,by omega⟩
 clear h1;cases h2:wJ d (-1000000000000000000) 1000000000000000000
 ·have H2:=ae h2;clear h2;have HR:=ae (show aL n d=((0,0),false)by unfold aL;rw[if_pos (.inr (.inr H2.o))]);go_enter Tryz.func90,Tryz.ntmps90
  go_wp2_with fail;refine(bG _ _ _ _).mono ?_;rw[H1.o];rintro e w1 ⟨rfl,rfl⟩;go_wp2_with fail;refine(bG _ _ _ _).mono ?_;rw[H2.o];rintro e w1 ⟨rfl,rfl⟩
  go_wp2
  rw[HR.o];refine bodyPost_ret (v:=.tuple #[.agg #[.int .i64 0,.int .i64 0],.bool false]) (by simp[results,Tryz.results90,go_sem]) rfl ⟨rfl,HX.o⟩
 have H2:=ae h2;have hd:xr d:=by simp only[wJ,Bool.and_eq_true,decide_eq_true_eq]at h2;exact⟨by omega,by omega⟩
 clear h2;have CK:=kl n h0;have R:=I8 n h0;have hq:=mZ n CK hn;have K:=mZ d CK hd;by_cases h3:d<0
 ·have HC:=ae (ov (-n) (-d) (w.alloc (.cells #[.int .i64 0,.int .i64 0] 46)) (gH hn) (gH hd));rw[im,kJ]at HC;obtain⟨g,hg⟩:=b8 (gI n d);rw[<-hg]at CK R HC hq K;have HG:=ae hg;have W:g<=1000000000000000000:=by obtain⟨_,_⟩:=hd;omega
  have Fj:¬g=0:=by omega
  have hgn:(-g == 0)=false:=by simp;omega
  obtain⟨Bj,H6⟩:=hn;obtain⟨FI,U⟩:=hd;obtain⟨J,Au⟩:=b8 (-(n.tdiv g));obtain⟨I,BM⟩:=b8 (-(d.tdiv g));have HR:=ae (show aL n d=zB (J,I)by unfold aL;rw[if_neg (by simp[h0,H1.o,H2.o]),if_pos h3,<-HG.o,Int.tdiv_neg,Int.tdiv_neg,Au,BM]);obtain⟨e1,e2⟩:=bz (gH hq);obtain⟨e3,e4⟩:=bz (gH K);rw[<-Au]at e1 e2;rw[<-BM]at e3 e4;have m1:(-n).tdiv g=J:=by rw[Int.neg_tdiv,Au]
  have m2:(-d).tdiv g=I:=by rw[Int.neg_tdiv,BM]
  have m3:n.tdiv (-g)=J:=by rw[Int.tdiv_neg,Au]
  have m4:d.tdiv (-g)=I:=by rw[Int.tdiv_neg,BM]
  have PN:=Au.symm;have Mp:=BM.symm;clear hq K hg R Au BM;cases hv:o5 (J,I)
  all_goals
   go_enter Tryz.func90,Tryz.ntmps90
   go_wp2_with fail;refine(bG _ _ _ _).mono ?_;rw[H1.o];rintro e w1 ⟨rfl,rfl⟩;go_wp2_with fail;refine(bG _ _ _ _).mono ?_;rw[H2.o];rintro e w1 ⟨rfl,rfl⟩;go_wp2_with fail;refine HC.o.mono ?_;rintro e w1 ⟨rfl,hd⟩;have hB:w1.heap[w.heap.size]?=some (.cells #[.int .i64 0,.int .i64 0] 46 (0,0)):=(hd.ext.block _ e7).trans (heap_alloc_new _ _);have HB:=ae hB;have LT:=ae (lt_of_block hB);have X1:=ae (HX.o.trans hd.ext);clear hd hB
   go_wp2
   go_region_law (fail)
   have X2:=ae ((X1.o.trans (Ext.alloc w1 (.cells #[.int .i64 J,.int .i64 I] 46))).trans (Ext.drew _));have HV:=ae (aO J I ((w1.alloc (.cells #[.int .i64 J,.int .i64 I] 46)).drew));go_wp2_with fail;refine HV.o.mono ?_;rw[hv];rintro e w2 ⟨rfl,hx⟩;have lt:=LT.o;have hB:w2.heap[w.heap.size]?=some (.cells #[.int .i64 0,.int .i64 0] 46 (0,0)):=(hx.block _ (by simp;omega)).trans ((bX w1 (.cells #[.int .i64 J,.int .i64 I] 46) _ lt).trans HB.o);have hC:w2.heap[w1.heap.size]?=some (.cells #[.int .i64 J,.int .i64 I] 46 (0,0)):=(hx.block _ e7).trans (heap_alloc_new w1 (.cells #[.int .i64 J,.int .i64 I] 46));have O:w2.cell? ⟨w.heap.size,0,none⟩=some (.int .i64 0):=by rw[cell_of_row _ _ _ _ _ _ hB];rfl
   have b1:w2.cell? ⟨w.heap.size,1,none⟩=some (.int .i64 0):=by rw[cell_of_row _ _ _ _ _ _ hB];rfl
   have c0:w2.cell? ⟨w1.heap.size,0,none⟩=some (.int .i64 J):=by rw[cell_of_row _ _ _ _ _ _ hC];rfl
   have c1:w2.cell? ⟨w1.heap.size,1,none⟩=some (.int .i64 I):=by rw[cell_of_row _ _ _ _ _ _ hC];rfl
   have fb:∀o,w2.frozen? ⟨w.heap.size,o,none⟩=false:=fun o=>frozen_of_row _ _ _ _ _ hB
   have X3:=ae (X2.o.trans hx);clear hx hB hC lt
   go_wp2
   rw[HR.o]
  ·refine bodyPost_ret (v:=.tuple #[.agg #[.int .i64 0,.int .i64 0],.bool false]) (by simp[results,Tryz.results90,go_sem,O,b1]) rfl ⟨by simp[zB,hv],?_⟩;exact(X3.o.setCell e7 _).setCell e7 _
  ·refine bodyPost_ret (v:=.tuple #[.agg #[.int .i64 J,.int .i64 I],.bool true]) (by simp[results,Tryz.results90,go_sem,O,b1]) rfl ⟨by simp[zB,hv],?_⟩;exact(X3.o.setCell e7 _).setCell e7 _
 ·have HC:=ae (ov n d (w.alloc (.cells #[.int .i64 0,.int .i64 0] 46)) hn hd);obtain⟨g,hg⟩:=b8 (gI n d);rw[<-hg]at CK R HC hq K;have HG:=ae hg;have W:g<=1000000000000000000:=by obtain⟨_,_⟩:=hd;omega
  have Fj:¬g=0:=by omega
  obtain⟨Bj,H6⟩:=hn;obtain⟨FI,U⟩:=hd;obtain⟨J,Au⟩:=b8 (n.tdiv g);obtain⟨I,BM⟩:=b8 (d.tdiv g);have HR:=ae (show aL n d=zB (J,I)by unfold aL;rw[if_neg (by simp[h0,H1.o,H2.o]),if_neg h3,<-HG.o,Au,BM]);have hm:d.tdiv g=d/g:=Int.tdiv_eq_ediv_of_nonneg b9;obtain⟨e1,e2⟩:=bz hq;obtain⟨e3,e4⟩:=bz K;rw[<-Au]at e1 e2;rw[<-BM]at e3 e4;have PN:=Au.symm;have Mp:=BM.symm;have hq3':d/g=I:=by rw[<-hm,BM]
  clear hq K hg R Au BM hm;cases hv:o5 (J,I)
  all_goals
   go_enter Tryz.func90,Tryz.ntmps90
   go_wp2_with fail;refine(bG _ _ _ _).mono ?_;rw[H1.o];rintro e w1 ⟨rfl,rfl⟩;go_wp2_with fail;refine(bG _ _ _ _).mono ?_;rw[H2.o];rintro e w1 ⟨rfl,rfl⟩;go_wp2_with fail;refine HC.o.mono ?_;rintro e w1 ⟨rfl,hd⟩;have hB:w1.heap[w.heap.size]?=some (.cells #[.int .i64 0,.int .i64 0] 46 (0,0)):=(hd.ext.block _ e7).trans (heap_alloc_new _ _);have HB:=ae hB;have LT:=ae (lt_of_block hB);have X1:=ae (HX.o.trans hd.ext);clear hd hB
   go_wp2
   go_region_law (fail)
   have X2:=ae ((X1.o.trans (Ext.alloc w1 (.cells #[.int .i64 J,.int .i64 I] 46))).trans (Ext.drew _));have HV:=ae (aO J I ((w1.alloc (.cells #[.int .i64 J,.int .i64 I] 46)).drew));go_wp2_with fail;refine HV.o.mono ?_;rw[hv];rintro e w2 ⟨rfl,hx⟩;have lt:=LT.o;have hB:w2.heap[w.heap.size]?=some (.cells #[.int .i64 0,.int .i64 0] 46 (0,0)):=(hx.block _ (by simp;omega)).trans ((bX w1 (.cells #[.int .i64 J,.int .i64 I] 46) _ lt).trans HB.o);have hC:w2.heap[w1.heap.size]?=some (.cells #[.int .i64 J,.int .i64 I] 46 (0,0)):=(hx.block _ e7).trans (heap_alloc_new w1 (.cells #[.int .i64 J,.int .i64 I] 46));have O:w2.cell? ⟨w.heap.size,0,none⟩=some (.int .i64 0):=by rw[cell_of_row _ _ _ _ _ _ hB];rfl
   have b1:w2.cell? ⟨w.heap.size,1,none⟩=some (.int .i64 0):=by rw[cell_of_row _ _ _ _ _ _ hB];rfl
   have c0:w2.cell? ⟨w1.heap.size,0,none⟩=some (.int .i64 J):=by rw[cell_of_row _ _ _ _ _ _ hC];rfl
   have c1:w2.cell? ⟨w1.heap.size,1,none⟩=some (.int .i64 I):=by rw[cell_of_row _ _ _ _ _ _ hC];rfl
   have fb:∀o,w2.frozen? ⟨w.heap.size,o,none⟩=false:=fun o=>frozen_of_row _ _ _ _ _ hB
   have X3:=ae (X2.o.trans hx);clear hx hB hC lt
   go_wp2
   rw[HR.o]
  ·refine bodyPost_ret (v:=.tuple #[.agg #[.int .i64 0,.int .i64 0],.bool false]) (by simp[results,Tryz.results90,go_sem,O,b1]) rfl ⟨by simp[zB,hv],?_⟩;exact(X3.o.setCell e7 _).setCell e7 _
  ·refine bodyPost_ret (v:=.tuple #[.agg #[.int .i64 J,.int .i64 I],.bool true]) (by simp[results,Tryz.results90,go_sem,O,b1]) rfl ⟨by simp[zB,hv],?_⟩;exact(X3.o.setCell e7 _).setCell e7 _
def aZ(p:Int)(l:j9):Bool:=l.all (fun x=>wJ x (-500) 500)&&(wJ p 1 5&&(decide ((l.length:Int)=zu p)&&decide (l[0]?.getD 0=0)))
theorem aW{p:Int}(h:aZ p l=true):∃n:Nat,p=n/\1<=n/\n<=5/\l.length=cN n/\l[0]?.getD 0=0/\∀x∈l,-500<=x/\x<=500:=by
 unfold aZ at h;simp only[Bool.and_eq_true,decide_eq_true_eq]at h;obtain⟨ha,hp,hl,h0⟩:=h;have hb:1<=p/\p<=5:=by unfold wJ at hp;simpa using hp
 refine⟨p.toNat,by omega,by omega,by omega,?_,h0,?_⟩
 ·have:p=(p.toNat:Int):=by omega
  rw[this,fJ _ b9]at hl;omega
 ·intro x hx;have:=List.all_eq_true.1 ha x hx;unfold wJ at this
  simpa using this
theorem ep{p:Int}{cap:Nat}(h:Ints w a n cap l):
 Calls Tryz.prog 31 #[pair p a n cap] w fun e w'=>e=.returned (.bool (aZ p l))/\Ext w w':=by
 have h1:=h.alloc (.cells #[.int .i64 p,.slice a n cap] 26);have hn:=h.o3;have hm:=h.l9;have HL:=ae h.hlen;clear h;go_enter Tryz.func31,Tryz.ntmps31
 go_wp2
 go_loop [3] (fun i=>∃k:Nat,k<=n/\i=.int .i64 k/\(l.take k).all (fun x=>wJ x (-500) 500)=true) (fun i=>n-(intOf i).toNat)
 case atStart=>exact⟨0,Nat.zero_le _,rfl,rfl⟩
 case round =>
  obtain⟨k,hk,rfl,An⟩:=hrel;have HA:=ae An;clear An;by_cases hlt:k<n
  ·obtain⟨b,off,rfl,hc⟩:=h1.at hlt;cases hb:wJ (l[k]?.getD 0) (-500) 500
   ·have HB:=ae hb;go_wp2_with (first|(go_at_call 74;refine(bG _ _ _ _).mono ?_;rintro e w' ⟨rfl,rfl⟩));go_ret;refine⟨ag ?_,Ext.alloc _ _⟩
    symm
    unfold aZ;cases hx:l.all (fun x=>wJ x (-500) 500)
    ·rfl
    ·have:=sE hx (k:=k) (j4 HL.o);rw[HB.o]at this;cases this
   ·have HB:=ae hb;go_wp2_with (first|(go_at_call 74;refine(bG _ _ _ _).mono ?_;rintro e w' ⟨rfl,rfl⟩))
    go_round
    case rel=>exact⟨k+1,by omega,by go_num,by rw[cW (j4 HL.o),List.all_append,HA.o];simpa using HB.o⟩
    case measure=>simp[intOf];omega
  ·have I:k=l.length:=by have:=HL.o;omega
   have An:=HA.o;rw[I,List.take_length]at An;have J:=ae An;clear An I;cases hp:wJ p 1 5
   ·have HP:=ae hp
    go_wp2
    go_quiet ((first|(go_at_call 74;exact bY (bG _ _ _ _))|(go_at_call 75;exact bY (dA _ _))))
    go_wp2
    go_ret;exact⟨ag (by unfold aZ;rw[J.o,HP.o];rfl),below_drewN (Ext.alloc _ _) _⟩
   ·have HP:=ae hp;cases hl:((n:Int) == zu p)
    ·have HE:=ae hl
     go_wp2
     go_quiet ((first|(go_at_call 74;exact bY (bG _ _ _ _))|(go_at_call 75;exact bY (dA _ _))))
     go_wp2
     go_ret;refine⟨ag ?_,below_drewN (Ext.alloc _ _) _⟩;have:¬((l.length:Int)=zu p):=by rw[HL.o];have:=HE.o;simpa using this
     unfold aZ;rw[decide_eq_false this];simp
    ·have HE:=ae hl;have zq:0<n:=by
      have h1:1<=p/\p<=5:=by unfold wJ at hp;simpa using hp
      have h2:(n:Int)=zu p:=by simpa using hl
      unfold zu at h2;rw[if_pos (by unfold wJ;simp;omega)]at h2;have:=gJ p.toNat;omega
     obtain⟨b,off,rfl,hc⟩:=h1.at zq;rw[Nat.add_zero]at hc
     go_wp2
     go_quiet ((first|(go_at_call 74;exact bY (bG _ _ _ _))|(go_at_call 75;exact bY (dA _ _))))
     go_wp2
     go_ret;refine⟨ag ?_,below_drewN (Ext.alloc _ _) _⟩;have he:(l.length:Int)=zu p:=by rw[HL.o];have:=HE.o;simpa using this
     unfold aZ;rw[J.o,HP.o,decide_eq_true he];rw[Bool.eq_iff_iff];simp
theorem nV(x:Int)(w:World):Calls Tryz.prog 51 #[.int .i64 x] w fun e w'=>e=.returned (.bool (!wJ x (-500) 500))/\w=w':=by
 go_enter Tryz.func51,Tryz.ntmps51
 go_wp2_with (first|(go_at_call 49;refine(aK _ _ _ _).mono ?_;rintro e w' ⟨rfl,rfl⟩));go_ret;exact⟨rfl,rfl⟩
theorem mL:IsGo Tryz.prog 51:=isGo Tryz.func51 e8 e8
theorem kT(w:World):FZ Tryz.prog w 51 #[] (fun x=>!wJ x (-500) 500) :=
 fun x w1 _=>(nV x w1).mono fun e w' ⟨he,hw⟩=>⟨he,hw▸Ext.refl _⟩
theorem ie(p:Int)(l:j9):aZ p l=(wJ p 1 5&&(decide ((l.length:Int)=zu p)&&(decide (l[0]?.getD 0=0)&&!l.any (fun x=>!wJ x (-500) 500)))):=by
 unfold aZ;have:(!l.any (fun x=>!wJ x (-500) 500))=l.all (fun x=>wJ x (-500) 500):=by rw[List.not_any_eq_all_not];simp
 rw[this];cases l.all (fun x=>wJ x (-500) 500)<;>simp
theorem eV{p:Int}{cap:Nat}(h:Ints w a n cap l):
 Calls Tryz.prog 17 #[pair p a n cap] w fun e w'=>e=.returned (.bool (aZ p l))/\Ext w w':=by
 have h1:=h.alloc (.cells #[.int .i64 p,.slice a n cap] 26);have HX:=ae (Ext.alloc w (.cells #[.int .i64 p,.slice a n cap] 26));have hn:=h.o3;have hm:=h.l9;have HL:=ae h.hlen;clear h;cases hp:wJ p 1 5
 ·have HP:=ae hp;go_enter Tryz.func17,Tryz.ntmps17
  go_wp2
  go_quiet ((first|(go_at_call 49;exact bY (aK _ _ _ _))))
  go_wp2
  go_ret;exact⟨ag (by rw[ie,HP.o];rfl),below_drewN (Ext.alloc _ _) _⟩
 ·have HP:=ae hp;obtain⟨m,rfl⟩:∃m:Nat,p=m:=⟨p.toNat,by unfold wJ at hp;simp at hp;omega⟩;have J:1<=m/\m<=5:=by unfold wJ at hp;simp at hp;omega
  obtain⟨J,I⟩:=J;have hwp:IntKind.i64.wrap ((2:Int)^m)=(cN m:Int):=by
   have h1:=gJ m;have h2:=js m I;rw[IntKind.wrap_i64,kf];omega
  have hwp':wrap64 ((2:Int)^m)=(cN m:Int):=(mj m I).trans (kf m).symm;have HC:=ae (fJ m I);have hN:=cu m I;cases hl:((n:Int) != (cN m:Int))
  ·have Oh:n=cN m:=Int.ofNat.inj (show(n:Int)=(cN m:Int)by simpa using hl);have K:=ae Oh;have zq:0<n:=by omega
   obtain⟨b,off,rfl,hc⟩:=h1.at zq;rw[Nat.add_zero]at hc;clear Oh;cases h0:(l[0]?.getD 0 != 0)
   ·have HZ:=ae h0;have HI:=ae h1;go_enter Tryz.func17,Tryz.ntmps17
    go_wp2
    go_quiet ((first|(go_at_call 49;exact bY (aK _ _ _ _))))
    go_wp2_with fail;refine(dQ (HI.o.drewN _) mL (kT _)).mono ?_;rintro e w1 ⟨rfl,hx⟩
    go_wp2
    go_ret;refine⟨ag ?_,Ext.trans (below_drewN HX.o _) hx⟩;rw[ie,HP.o,HC.o,HL.o,K.o,decide_eq_true rfl];have:l[0]?.getD 0=0:=by simpa using HZ.o
    rw[decide_eq_true this]
    rfl
   ·have HZ:=ae h0;go_enter Tryz.func17,Tryz.ntmps17
    go_wp2
    go_quiet ((first|(go_at_call 49;exact bY (aK _ _ _ _))))
    go_wp2
    go_ret;refine⟨ag ?_,below_drewN HX.o _⟩;have:¬(l[0]?.getD 0=0):=by simpa using HZ.o
    rw[ie,decide_eq_false this];simp
  ·have Fu:=ae hl;go_enter Tryz.func17,Tryz.ntmps17
   go_wp2
   go_quiet ((first|(go_at_call 49;exact bY (aK _ _ _ _))))
   go_wp2
   go_ret;refine⟨ag ?_,below_drewN HX.o _⟩;have:¬((l.length:Int)=zu (m:Int)):=by rw[HL.o,HC.o];have:=Fu.o;simpa using this
   rw[ie,decide_eq_false this];simp
def ym(M:j7)(c d:Nat):Nat:=match (M.drop d).findIdx? (fun r=>r[c]?.getD 0 != 0)with|some k=>d+k|none=>M.length
def swp{α:Type}[Inhabited α](l:List α)(a b:Nat):List α:=(l.set a (l[b]?.getD default)).set b (l[a]?.getD default)
theorem cL[Inhabited α](l:List α)(a b:Nat):(swp l a b).length=l.length:=by simp[swp]
theorem hU[Inhabited α]{l:List α}{a b:Nat}(ha:a<l.length)(hb:b<l.length)(i:Nat):(swp l a b)[i]?.getD default=if i=b then l[a]?.getD default else if i=a then l[b]?.getD default else l[i]?.getD default:=by
 unfold swp;by_cases h1:i=b
 ·subst h1;rw[if_pos rfl];simp[hb]
 ·rw[if_neg h1,List.getElem?_set_ne (Ne.symm h1)];by_cases h2:i=a
  ·subst h2;rw[if_pos rfl];simp[ha]
  ·rw[if_neg h2,List.getElem?_set_ne (Ne.symm h2)]
theorem KK[Inhabited α](l:List α){a b:Nat}(ha:a<l.length)(hb:b<l.length):swp l a b=swp l b a:=by
 apply List.ext_getElem?
 intro i;by_cases hi:i<l.length
 ·have h1:=hU ha hb i;have h2:=hU hb ha i;have e:(if i=b then l[a]?.getD default else if i=a then l[b]?.getD default else l[i]?.getD default)=(if i=a then l[b]?.getD default else if i=b then l[a]?.getD default else l[i]?.getD default):=by
   by_cases h3:i=b
   ·subst h3;by_cases h4:i=a
    ·subst h4;simp
    ·simp[h4]
   ·simp[h3]
  rw[e,<-h2]at h1;have l1:i<(swp l a b).length:=by rw[cL];exact hi
  have l2:i<(swp l b a).length:=by rw[cL];exact hi
  rw[List.getElem?_eq_getElem l1,List.getElem?_eq_getElem l2]at h1⊢
  simpa using h1
 ·rw[List.getElem?_eq_none (by rw[cL];omega),List.getElem?_eq_none (by rw[cL];omega)]
def xh(c:Nat)(p r:j9):j9:=(List.range r.length).map fun j=>r[j]?.getD 0*p[c]?.getD 0-r[c]?.getD 0*p[j]?.getD 0
def Bn(l:j9):Int:=l.foldl gI 0
def bT(c:Nat)(p r:j9):j9:=if r[c]?.getD 0=0 then r else(xh c p r).map fun x=>x.tdiv (max (Bn (xh c p r)) 1)
theorem em(c:Nat)(p r:j9):(xh c p r).length=r.length:=by simp[xh]
theorem uV(c:Nat)(p r:j9):(bT c p r).length=r.length:=by unfold bT;split<;>simp[em]
theorem fO{p:j9}(h:j<r.length):(xh c p r)[j]?.getD 0=r[j]?.getD 0*p[c]?.getD 0-r[c]?.getD 0*p[j]?.getD 0:=by simp[xh,h]
def zG(e:Nat->j9->j9->j9)(c:Nat)(M:j7)(d t:Nat):j7:=(List.range M.length).map fun i=>if d<i/\i<t then e c (M[d]?.getD []) (M[i]?.getD []) else M[i]?.getD []
theorem dz(e:Nat->j9->j9->j9)(c:Nat)(M:j7)(d t:Nat):(zG e c M d t).length=M.length:=by simp[zG]
theorem fP(e:Nat->j9->j9->j9)(c:Nat)(M:j7)(d t:Nat)(h:i<M.length):(zG e c M d t)[i]?.getD []=if d<i/\i<t then e c (M[d]?.getD []) (M[i]?.getD []) else M[i]?.getD []:=by simp[zG,h]
theorem jF{l I:j7}(hl:l.length=I.length)(h:∀i,i<l.length->l[i]?.getD []=I[i]?.getD []):l=I:=by
 apply List.ext_getElem hl
 intro i h1 h2;have:=h i h1;rw[List.getElem?_eq_getElem h1,List.getElem?_eq_getElem h2]at this
 simpa using this
theorem nf(e:Nat->j9->j9->j9)(c:Nat)(M:j7)(d:Nat):zG e c M d (d+1)=M:=by
 refine jF (dz _ _ _ _ _) fun i hi=>?_
 rw[dz]at hi;rw[fP _ _ _ _ _ hi,if_neg b9]
theorem ku(e:Nat->j9->j9->j9)(c:Nat)(M:j7)(d t:Nat)(h:d<t)(ht:t<M.length):(zG e c M d t).set t (e c (M[d]?.getD []) (M[t]?.getD []))=zG e c M d (t+1):=by
 refine jF (by simp[dz]) fun i hi=>?_
 rw[List.length_set,dz]at hi;rw[fP _ _ _ _ _ hi];by_cases hit:i=t
 ·subst hit;rw[if_pos ⟨h,by omega⟩,List.getElem?_set_self (by rw[dz];exact ht)];rfl
 ·rw[List.getElem?_set_ne (Ne.symm hit),fP _ _ _ _ _ hi];by_cases h2:d<i/\i<t
  ·rw[if_pos h2,if_pos ⟨h2.1,by omega⟩]
  ·rw[if_neg h2,if_neg b9]
theorem gL(e:Nat->j9->j9->j9)(c:Nat)(M:j7)(d t i:Nat)(h:i<M.length)(hi:t<=i∨i<=d):(zG e c M d t)[i]?.getD []=M[i]?.getD []:=by
 rw[fP _ _ _ _ _ h,if_neg b9]
theorem wi{e:Nat->j9->j9->j9}{t:Nat}(h:d<t)(ht:t<M.length)(he:e c (M[d]?.getD []) (M[t]?.getD [])=M[t]?.getD []):zG e c M d t=zG e c M d (t+1):=by
 rw[<-ku e c M d t h ht,he];refine jF e7 fun i hi=>?_
 rw[dz]at hi;by_cases hit:i=t
 ·subst hit;rw[List.getElem?_set_self (by rw[dz];exact hi),gL _ _ _ _ _ _ hi b9];rfl
 ·rw[List.getElem?_set_ne (Ne.symm hit)]
def BX(m r:j9)(j:Nat):j9:=m.take j++r.drop j
theorem oY(m r:j9):BX m r 0=r:=by simp[BX]
theorem qV(h:m.length=r.length):BX m r m.length=m:=by unfold BX;rw[List.take_length,h,List.drop_length,List.append_nil]
theorem sZ(h:m.length=r.length)(hj:j<r.length):(BX m r j)[j]?.getD 0=r[j]?.getD 0:=by
 unfold BX;have hl:(m.take j).length=j:=by simp;omega
 rw[List.getElem?_append_right b9,hl,List.getElem?_drop];simp
theorem LM(h:m.length=r.length)(hj:j<r.length):(BX m r j).set j (m[j]?.getD 0)=BX m r (j+1):=by
 unfold BX;have hl:(m.take j).length=j:=by simp;omega
 rw[List.set_append_right _ _ b9,hl,Nat.sub_self,List.drop_eq_getElem_cons hj,List.set_cons_zero,cW b9,List.append_assoc]
 rfl
theorem KX(hi:i<M.length)(h:M[i]?.getD []=r):M.set i r=M:=by
 refine jF e7 fun k hk=>?_
 rw[List.length_set]at hk;by_cases e:k=i
 ·subst e;rw[List.getElem?_set_self hi,h];rfl
 ·rw[List.getElem?_set_ne (Ne.symm e)]
theorem pE(hi:i<M.length)(hl:m.length=r.length)(hj:j<r.length):(M.set i (BX m r j)).set i (((M.set i (BX m r j))[i]?.getD []).set j (m[j]?.getD 0))=M.set i (BX m r (j+1)):=by
 rw[List.getElem?_set_self hi,Option.getD_some,List.set_set,LM hl hj]
def Ao(e:Nat->j9->j9->j9)(c:Nat)(s:j7×Nat):j7×Nat :=
 if ym s.1 c s.2<s.1.length then(zG e c (swp s.1 s.2 (ym s.1 c s.2)) s.2 s.1.length,s.2+1) else s
def runM(e:Nat->j9->j9->j9)(M:j7):Nat->j7×Nat
 | 0=>(M,0)
 | c+1=>Ao e c (runM e M c)
theorem ed(h:ym M c d<M.length):d<=ym M c d/\(M[ym M c d]?.getD [])[c]?.getD 0≠0/\∀i,d<=i->i<ym M c d->(M[i]?.getD [])[c]?.getD 0=0:=by
 unfold ym at h⊢;cases hf:(M.drop d).findIdx? (fun r=>r[c]?.getD 0 != 0)with
 | none=>rw[hf]at h;simp at h
 | some k =>
   simp only;rw[List.findIdx?_eq_some_iff_getElem]at hf;obtain⟨h1,h2,h3⟩:=hf;rw[List.length_drop]at h1;refine⟨by omega,?_,fun i hi hi2=>?_⟩
   ·rw[List.getElem_drop]at h2;have:d+k<M.length:=by omega
    rw[List.getElem?_eq_getElem this];simpa using h2
   ·have h4:=h3 (i-d) b9;rw[List.getElem_drop]at h4;have:i<M.length:=by omega
    rw[List.getElem?_eq_getElem this];have e:d+(i-d)=i:=by omega
    simp only[e]at h4
    simpa using h4
theorem gZ(h:¬ym M c d<M.length)(hd:d<=M.length):ym M c d=M.length/\∀i,d<=i->i<M.length->(M[i]?.getD [])[c]?.getD 0=0:=by
 unfold ym at h⊢;cases hf:(M.drop d).findIdx? (fun r=>r[c]?.getD 0 != 0)with
 | none =>
   refine⟨rfl,fun i hi hi2=>?_⟩;rw[List.findIdx?_eq_none_iff]at hf;have:=hf (M[i]) (List.mem_drop_iff_getElem.2 ⟨i-d,by omega,by congr 1;omega⟩);rw[List.getElem?_eq_getElem hi2]
   simpa using this
 | some k =>
   rw[hf]at h;simp only at h;rw[List.findIdx?_eq_some_iff_getElem]at hf;obtain⟨h1,_⟩:=hf;rw[List.length_drop]at h1;omega
theorem Pb(hk:d<=k)(yQ:k<M.length)(h:(M[k]?.getD [])[c]?.getD 0≠0)(hz:∀i,d<=i->i<k->(M[i]?.getD [])[c]?.getD 0=0):ym M c d=k:=by
 by_cases hp:ym M c d<M.length
 ·obtain⟨h1,h2,h3⟩:=ed hp
  rcases Nat.lt_trichotomy (ym M c d) k with h4|h4|h4
  ·exact absurd (hz _ h1 h4) h2
  ·exact h4
  ·exact absurd (h3 k hk h4) h
 ·exact absurd ((gZ hp b9).2 k hk yQ) h
theorem Lt(hd:d<=M.length)(hz:∀i,d<=i->i<M.length->(M[i]?.getD [])[c]?.getD 0=0):ym M c d=M.length:=by
 by_cases hp:ym M c d<M.length
 ·obtain⟨h1,h2,h3⟩:=ed hp;exact absurd (hz _ h1 hp) h2
 ·exact(gZ hp hd).1
theorem tm(M:j7)(c:Nat)(hd:d<=M.length):d<=ym M c d/\ym M c d<=M.length:=by
 by_cases hp:ym M c d<M.length
 ·exact⟨(ed hp).1,Nat.le_of_lt hp⟩
 ·rw[(gZ hp hd).1];exact⟨hd,Nat.le_refl _⟩
theorem vX(hd:d<=M.length)(h1:d<=k)(h2:k<ym M c d):(M[k]?.getD [])[c]?.getD 0=0:=by
 by_cases hp:ym M c d<M.length
 ·exact(ed hp).2.2 k h1 h2
 ·have:=gZ hp hd;exact this.2 k h1 b9
def Good(n:Nat)(B:Int)(M:j7):Prop:=∀i,i<M.length->(M[i]?.getD []).length=n/\∀j:Nat,-B<=(M[i]?.getD [])[j]?.getD 0/\(M[i]?.getD [])[j]?.getD 0<=B
def G9:Nat->Int
 | 0=>1
 | d+1=>2*(G9 d*G9 d)
theorem gh:∀d,d<=4->1<=G9 d/\G9 d<=32768/\G9 d<=G9 (d+1):=by
 have:∀d:Fin 5,1<=G9 d.val/\G9 d.val<=32768/\G9 d.val<=G9 (d.val+1):=by decide +kernel
 exact fun d hd=>this ⟨d,by omega⟩
theorem gK{x y:Int}(h1:-B<=x)(h2:x<=B)(h3:-B<=y)(h4:y<=B):-(B*B)<=x*y/\x*y<=B*B:=by
 have hx:x.natAbs<=B.natAbs:=by omega
 have hy:y.natAbs<=B.natAbs:=by omega
 have h:(x*y).natAbs<=B.natAbs*B.natAbs:=by rw[Int.natAbs_mul];exact Nat.mul_le_mul hx hy
 have e:((B.natAbs*B.natAbs:Nat):Int)=B*B:=by
    rw[Int.natCast_mul];have:(B.natAbs:Int)=B:=by omega
    rw[this]
 omega
theorem qW{p:j9}(hp:∀j:Nat,-B<=p[j]?.getD 0/\p[j]?.getD 0<=B)(hr:∀j:Nat,-B<=r[j]?.getD 0/\r[j]?.getD 0<=B)(j:Nat):
 -(2*(B*B))<=(xh c p r)[j]?.getD 0/\(xh c p r)[j]?.getD 0<=2*(B*B):=by
 by_cases h:j<r.length
 ·rw[fO h];have h1:=gK (hr j).1 (hr j).2 (hp c).1 (hp c).2;have h2:=gK (hr c).1 (hr c).2 (hp j).1 (hp j).2;omega
 ·rw[List.getElem?_eq_none (by rw[em];omega)];simp only[Option.getD_none];have:=gK (hr 0).1 (hr 0).2 (hr 0).1 (hr 0).2;have h0:0<=B*B:=by
     have h1:=hr 0;have:0<=B:=by omega
     exact Int.mul_nonneg this this
  omega
theorem Qm{p:j9}(hB:1<=B)(hp:∀j:Nat,-B<=p[j]?.getD 0/\p[j]?.getD 0<=B)(hr:∀j:Nat,-B<=r[j]?.getD 0/\r[j]?.getD 0<=B)(j:Nat):
 -(2*(B*B))<=(bT c p r)[j]?.getD 0/\(bT c p r)[j]?.getD 0<=2*(B*B):=by
 have r9:B<=B*B:=by have:=Int.mul_le_mul_of_nonneg_left hB (show 0<=B by omega);omega
 unfold bT
 split
 ·have:=hr j;omega
 ·have h1:=qW (c:=c) hp hr j;by_cases h:j<r.length
  ·have e:((xh c p r).map fun x=>x.tdiv (max (Bn (xh c p r)) 1))[j]?.getD 0=((xh c p r)[j]?.getD 0).tdiv (max (Bn (xh c p r)) 1):=by
    simp[em,h]
   rw[e];generalize(xh c p r)[j]?.getD 0=x at *;have h2:(x.tdiv (max (Bn (xh c p r)) 1)).natAbs<=x.natAbs:=by rw[Int.natAbs_tdiv];exact Nat.div_le_self _ _
   omega
  ·rw[List.getElem?_eq_none (by simp[em];omega)];simp only[Option.getD_none];omega
theorem iu(h:Good n B M){a:Nat}(ha:a<M.length)(hb:b<M.length):Good n B (swp M a b):=by
 intro i hi;rw[cL]at hi;have:=hU ha hb i;change(swp M a b)[i]?.getD []=_ at this;rw[this]
 split
 ·exact h a ha
 ·split
  ·exact h b hb
  ·exact h i hi
theorem lJ{I:Int}(h:Good n B M)(r9:B<=I){e:Nat->j9->j9->j9}{t:Nat}(hd:d<M.length)
 (he:∀p r:j9,p.length=n->r.length=n->(∀j:Nat,-B<=p[j]?.getD 0/\p[j]?.getD 0<=B)->(∀j:Nat,-B<=r[j]?.getD 0/\r[j]?.getD 0<=B)->(e c p r).length=n/\∀j:Nat,-I<=(e c p r)[j]?.getD 0/\(e c p r)[j]?.getD 0<=I):Good n I (zG e c M d t):=by
 intro i hi;rw[dz]at hi;rw[fP _ _ _ _ _ hi]
 split
 ·exact he _ _ (h d hd).1 (h i hi).1 (h d hd).2 (h i hi).2
 ·have:=h i hi;exact⟨this.1,fun j=>by have:=this.2 j;omega⟩
def Ua(e:Nat->j9->j9->j9):Prop:=∀(B:Int) (n c:Nat) (p r:j9),1<=B->p.length=n->r.length=n->(∀j:Nat,-B<=p[j]?.getD 0/\p[j]?.getD 0<=B)->(∀j:Nat,-B<=r[j]?.getD 0/\r[j]?.getD 0<=B)->(e c p r).length=n/\∀j:Nat,-(2*(B*B))<=(e c p r)[j]?.getD 0/\(e c p r)[j]?.getD 0<=2*(B*B)
theorem nw:Ua bT:=fun B n c p r hB hp hr h1 h2=>⟨by rw[uV,hr],fun j=>Qm hB h1 h2 j⟩
theorem rH:Ua xh:=fun B n c p r hB hp hr h1 h2=>⟨by rw[em,hr],fun j=>qW h1 h2 j⟩
theorem io{e:Nat->j9->j9->j9}(he:Ua e){n:Nat}{M:j7}(h:Good n 1 M):∀c,c<=5->(runM e M c).2<=c/\(runM e M c).1.length=M.length/\(runM e M c).2<=M.length/\Good n (G9 (runM e M c).2) (runM e M c).1
 | 0,_=>⟨Nat.le_refl _,rfl,Nat.zero_le _,h⟩
 | c+1,hc=>by
   obtain⟨h1,h2,h3,h4⟩:=io he h c b9
   show(Ao e c (runM e M c)).2<=c+1/\(Ao e c (runM e M c)).1.length=M.length/\(Ao e c (runM e M c)).2<=M.length/\Good n (G9 (Ao e c (runM e M c)).2) (Ao e c (runM e M c)).1;unfold Ao;generalize runM e M c=s at *
   split
   ·next hp =>
    have hb:=gh s.2 b9;have B8:=(ed hp).1;refine⟨by simp only;omega,by simp only[dz,cL];exact h2,by simp only;omega,?_⟩;refine lJ (iu h4 b9 hp) hb.2.2 (by rw[cL];omega) fun p r Oe Cg h5 h6=>he _ n c p r hb.1 Oe Cg h5 h6
   ·exact⟨by omega,h2,h3,h4⟩
def E4(n:Nat)(a b:j9):Prop:=∃u v:Int,u≠0/\v≠0/\∀j,j<n->u*a[j]?.getD 0=v*b[j]?.getD 0
theorem E4.refl(n:Nat)(a:j9):E4 n a a:=⟨1,1,by omega,by omega,fun _ _=>rfl⟩
theorem E4.zero{a b:j9}(h:E4 n a b)(hj:j<n):a[j]?.getD 0=0↔b[j]?.getD 0=0:=by
 obtain⟨u,v,hu,hv,h⟩:=h;have:=h j hj;constructor
 ·intro e;rw[e,Int.mul_zero]at this
  rcases Int.mul_eq_zero.1 this.symm with h|h
  ·exact absurd h hv
  ·exact h
 ·intro e;rw[e,Int.mul_zero]at this
  rcases Int.mul_eq_zero.1 this with h|h
  ·exact absurd h hu
  ·exact h
theorem M6(l:j9):∀(g:Int),(l.foldl gI g)∣g/\∀x∈l,(l.foldl gI g)∣x:=by
 induction l with
 | nil=>intro g;exact⟨Int.dvd_refl _,fun x hx=>absurd hx e7⟩
 | cons a l ih =>
   intro g;obtain⟨h1,h2⟩:=ih (gI g a);refine⟨Int.dvd_trans h1 (nO g a),fun x hx=>?_⟩
   rcases List.mem_cons.1 hx with rfl|hx
   ·exact Int.dvd_trans h1 (kI g x)
   ·exact h2 x hx
theorem rW(l:j9):∀g:Int,0<=g->0<=l.foldl gI g:=by
 induction l with
 | nil=>exact fun g h=>h
 | cons a l ih=>exact fun g h=>ih _ (oK g a)
theorem wF{x:Int}(hx:x∈l):x.tdiv (max (Bn l) 1)*max (Bn l) 1=x:=by
 have h1:=(M6 l 0).2 x hx;have h0:=rW l 0 (Int.le_refl _);change Bn l∣x at h1;change 0<=Bn l at h0;by_cases hg:Bn l=0
 ·rw[hg]at h1⊢;have:x=0:=Int.zero_dvd.1 h1;subst this;simp
 ·rw[show max (Bn l) 1=Bn l by omega];exact Int.tdiv_mul_cancel h1
theorem KS{p q s:j9}(hc:c<n)(hr:r.length=n)(hs:s.length=n)(h:E4 n p q)(k:E4 n r s)(hp:p[c]?.getD 0≠0):E4 n (bT c p r) (xh c q s):=by
 have hq:q[c]?.getD 0≠0:=fun e=>hp ((h.zero hc).2 e)
 have hz:=k.zero hc;obtain⟨I,K,O,J,h⟩:=h;obtain⟨u,v,hu,hv,k⟩:=k;unfold bT
 split
 ·next h0 =>
  have s0:=hz.1 h0;refine⟨u*q[c]?.getD 0,v,Int.mul_ne_zero hu hq,hv,fun j hj=>?_⟩;rw[fO b9,s0];have:=k j hj
  grind
 ·refine⟨u*I*max (Bn (xh c p r)) 1,v*K,Int.mul_ne_zero (Int.mul_ne_zero hu O) b9,Int.mul_ne_zero hv J,fun j hj=>?_⟩;have hj':j<(xh c p r).length:=by rw[em];omega
  have e1:((xh c p r).map fun x=>x.tdiv (max (Bn (xh c p r)) 1))[j]?.getD 0=((xh c p r)[j]?.getD 0).tdiv (max (Bn (xh c p r)) 1):=by simp[hj']
  have e2:=wF (l:=xh c p r) (x:=(xh c p r)[j]?.getD 0) (by rw[List.getElem?_eq_getElem hj'];simp);rw[e1,fO (show j<s.length by omega)];have e3:=fO (c:=c) (p:=p) (r:=r) (j:=j) b9;generalize((xh c p r)[j]?.getD 0).tdiv (max (Bn (xh c p r)) 1)=z at *;generalize max (Bn (xh c p r)) 1=G at *;have k1:=k j hj;have k2:=k c hc;have h1:=h j hj;have h2:=h c hc;rw[e3]at e2;generalize r[j]?.getD 0=rj at *;generalize r[c]?.getD 0=rc at *;generalize s[j]?.getD 0=sj at *;generalize s[c]?.getD 0=sc at *;generalize p[j]?.getD 0=pj at *;generalize p[c]?.getD 0=pc at *;generalize q[j]?.getD 0=qj at *;generalize q[c]?.getD 0=qc at *;have a1:u*I*G*z=u*I*(rj*pc-rc*pj):=by rw[<-e2];grind
  rw[a1];have a2:u*I*(rj*pc-rc*pj)=(u*rj)*(I*pc)-(u*rc)*(I*pj):=by grind
  rw[a2,k1,k2,h1,h2]
  grind
structure Ub(n:Nat)(M K:j7):Prop where
 len:M.length=K.length
 row:∀i,i<M.length->E4 n (M[i]?.getD []) (K[i]?.getD [])
theorem O2{K:j7}(hc:c<n)(hd:d<=M.length)(h:Ub n M K):ym M c d=ym K c d:=by
 by_cases hp:ym M c d<M.length
 ·obtain⟨h1,h2,h3⟩:=ed hp;refine(Pb h1 (by rw[<-h.len];exact hp) (fun e=>h2 (((h.row _ hp).zero hc).2 e)) fun i hi hi2=>((h.row i b9).zero hc).1 (h3 i hi hi2)).symm
 ·obtain⟨h1,h2⟩:=gZ hp hd;rw[h1,h.len];exact(Lt (by rw[<-h.len];exact hd) fun i hi hi2=>((h.row i (by rw[h.len];exact hi2)).zero hc).1 (h2 i hi (by rw[h.len];exact hi2))).symm
theorem tA{n:Nat}{M:j7}(h:Good n 1 M)(hn:n<=5):∀c,c<=n->Ub n (runM bT M c).1 (runM xh M c).1/\(runM bT M c).2=(runM xh M c).2
 | 0,_=>⟨⟨rfl,fun i _=>E4.refl _ _⟩,rfl⟩
 | c+1,hc=>by
   obtain⟨h1,h2⟩:=tA h hn c b9;obtain⟨a1,a2,a3,a4⟩:=io nw h c b9;obtain⟨b1,b2,b3,O⟩:=io rH h c b9
   show Ub n (Ao bT c (runM bT M c)).1 (Ao xh c (runM xh M c)).1/\(Ao bT c (runM bT M c)).2=(Ao xh c (runM xh M c)).2;generalize runM bT M c=s at *;generalize runM xh M c=t at *;obtain⟨S,d⟩:=s;obtain⟨T,d'⟩:=t;simp only at *;subst h2;have R:=O2 (show c<n by omega) (show d<=S.length by omega) h1;unfold Ao;simp only;rw[<-R];by_cases hp:ym S c d<S.length
   ·rw[if_pos hp,if_pos (by rw[<-h1.len];exact hp)];obtain⟨p1,p2,p3⟩:=ed hp;have hlen:=h1.len;have J:d<S.length:=by omega
    refine⟨⟨by simp[dz,cL,hlen],fun i hi=>?_⟩,rfl⟩;rw[dz,cL]at hi;have K:∀i,i<S.length->E4 n ((swp S d (ym S c d))[i]?.getD []) ((swp T d (ym S c d))[i]?.getD []):=by
     intro i hi;have e1:=hU J hp i;have e2:=hU (l:=T) (show d<T.length by omega) (show ym S c d<T.length by omega) i;change(swp S d (ym S c d))[i]?.getD []=_ at e1;change(swp T d (ym S c d))[i]?.getD []=_ at e2;rw[e1,e2]
     split
     ·exact h1.row d J
     ·split
      ·exact h1.row _ hp
      ·exact h1.row i hi
    rw[fP _ _ _ _ _ (by rw[cL];exact hi),fP _ _ _ _ _ (by rw[cL];omega),<-hlen]
    split
    ·next Rz =>
     have g1:=iu a4 J hp;have g2:=iu O (show d<T.length by omega) (show ym S c d<T.length by omega);refine KS b9 (g1 i (by rw[cL];exact hi)).1 (g2 i (by rw[cL];omega)).1 (K d J) (K i hi) ?_;have e1:=hU J hp d;change(swp S d (ym S c d))[d]?.getD []=_ at e1;rw[e1];by_cases I:d=ym S c d
     ·rw[if_pos I];rw[<-I]at p2;exact p2
     ·rw[if_neg I,if_pos rfl];exact p2
    ·exact K i hi
   ·rw[if_neg hp,if_neg (by rw[<-h1.len];exact hp)];exact⟨h1,rfl⟩
def y8(n:Nat)(s:Int):j9:=(List.range n).map fun(k:Nat)=>wL (xt s (k:Int))
theorem ir(n:Nat)(s:Int):(y8 n s).length=n:=by simp[y8]
theorem oB(n:Nat)(s:Int):y8 n s++[wL (xt s (n:Int))]=y8 (n+1) s:=by simp[y8,List.range_succ]
theorem jz(n:Nat)(l:j9):Good n 1 (l.map (y8 n)):=by
 intro i hi;have I:i<l.length:=by simpa using hi
 have e:(l.map (y8 n))[i]?.getD []=y8 n (l[i]):=by simp[I]
 rw[e];refine⟨ir _ _,fun j=>?_⟩;by_cases hj:j<n
 ·simp only[y8,List.getElem?_map,List.getElem?_range hj,Option.map_some,Option.getD_some];unfold wL;split<;>omega
 ·rw[List.getElem?_eq_none (by rw[ir];omega)];simp
def fe(n:Int)(l:j9):Int:=if wJ n 1 5=true then((runM bT (l.map (y8 n.toNat)) n.toNat).2:Int) else 0
def gT(n:Int)(l:j9):Int:=if wJ n 1 5=true then((runM xh (l.map (y8 n.toNat)) n.toNat).2:Int) else 0
theorem pr(n:Int)(l:j9):fe n l=gT n l:=by
 unfold fe gT
 split
 ·next h =>
  simp only[wJ,Bool.and_eq_true,decide_eq_true_eq]at h;rw[(tA (jz n.toNat l) b9 n.toNat (Nat.le_refl _)).2]
 ·rfl
structure A4(w:World)(base:Nat)(a:j8)(N cap:Nat)(vs:List Value)(M:j7):Prop where
 own:xe w base (.slice a N cap) vs
 rows:bC w base vs M
theorem A4.Aj{cap:Nat}(h:A4 w base a N cap vs M):vs.length=N:=h.own.len
theorem A4.len{cap:Nat}(h:A4 w base a N cap vs M):M.length=N:=by rw[<-h.rows.len];exact h.own.len
theorem A4.cap{w:World}{base:Nat}{a:j8}{N cap:Nat}{vs:List Value}{M:j7}(h:A4 w base a N cap vs M):N<=cap/\cap<=9223372036854775807:=by
 obtain⟨a',c',he,h1,h2⟩:=h.own.form;simp only[Value.slice.injEq]at he;obtain⟨_,h3,rfl⟩:=he;exact⟨by omega,h2⟩
theorem A4.ext{w':World}{cap:Nat}(h:A4 w base a N cap vs M)(hx:Ext w w'):A4 w' base a N cap vs M:=⟨h.own.ext hx,h.rows.ext hx⟩
theorem A4.Fg{cap:Nat}(h:A4 w base a N cap vs M):et w a N cap M :=
 dI.Fg ⟨vs,h.own,h.rows⟩
theorem A4.outer{cap:Nat}(h:A4 w base a N cap vs M)(hN:0<N):∃G,a=some ⟨G,0,none⟩/\base<=G/\G<w.heap.size/\∀j,w.frozen? ⟨G,j,none⟩=false:=by
 rcases h.own.2 with⟨he,h0⟩|⟨g,cap',cur,he,hb,hg,_⟩
 ·simp only[Value.slice.injEq]at he;omega
 ·simp only[Value.slice.injEq]at he;obtain⟨rfl,_⟩:=he;exact⟨g,rfl,hb,lt_of_block hg,fun j=>frozen_of_row w g j cur _ hg⟩
theorem A4.row{cap:Nat}(h:A4 w base (some ⟨G,0,none⟩) N cap vs M)(hi:i<N)(hn:(M[i]?.getD []).length=n)(h1:1<=n):
 ∃g c,vs[i]?.getD undef=.slice (some ⟨g,0,none⟩) n c/\w.cell? ⟨G,i,none⟩=some (.slice (some ⟨g,0,none⟩) n c)/\o8 w base (.slice (some ⟨g,0,none⟩) n c) (M[i]?.getD [])/\g≠G/\base<=g/\g<w.heap.size/\n<=c/\c<=9223372036854775807:=by
 have hr:=h.rows.row i (by rw[h.len];exact hi);obtain⟨a',c,he,yq,AZ⟩:=hr.form;rw[he]at hr;rw[hn]at he hr yq;obtain⟨g,rfl,hb,_,D'⟩:=hr.block (k:=0) b9;obtain⟨G',I,_,hc⟩:=h.own.cell hi;simp only[Option.some.injEq,Addr.mk.injEq,and_true]at I;subst I;refine⟨g,c,he,?_,hr,fun e=>hr.apart h.own g rfl (by subst e;rfl),hb,D',yq,AZ⟩;rw[hc i hi,<-he];have:i<vs.length:=by rw[h.Aj];exact hi
 simp[this]
theorem A4.DZ{cap:Nat}(h:A4 w base (some ⟨G,0,none⟩) N cap vs M){g:Nat}(hi:i<N)(hv:vs[i]?.getD undef=.slice (some ⟨g,0,none⟩) n c)(j:Nat)(x:Int):
 A4 (w.setCell ⟨g,j,none⟩ (.int .i64 x)) base (some ⟨G,0,none⟩) N cap vs (M.set i ((M[i]?.getD []).set j x)):=by
 have Bb:i<M.length:=by rw[h.len];exact hi
 have hr:=h.rows.row i Bb;rw[hv]at hr;have hgG:g≠G:=fun e=>hr.apart h.own g rfl (by subst e;rfl)
 refine⟨h.own.keep fun k hk=>heap_setCell_other _ _ _ _ (by simp only[Value.ownBlock,Option.some.injEq]at hk;show k≠g;omega),?_⟩;refine⟨by rw[List.length_set];exact h.rows.len,fun k hk=>?_,fun a b k JF hb=>h.rows.apart a b k JF (by rw[List.length_set]at hb;exact hb)⟩;rw[List.length_set]at hk;by_cases D8:k=i
 ·subst D8;rw[hv,List.getElem?_set_self Bb];exact hr.set j x
 ·rw[List.getElem?_set_ne (Ne.symm D8)];refine(h.rows.row k hk).keep fun b hb=>heap_setCell_other _ _ _ _ fun e=>?_
  subst e
  rcases Nat.lt_or_gt_of_ne D8 with hlt|hlt
  ·exact h.rows.apart k i _ hlt Bb hb (by rw[hv];rfl)
  ·exact h.rows.apart i k _ hlt hk (by rw[hv];rfl) hb
theorem A4.put{w0:World}{cap:Nat}(h:A4 w0 base (some ⟨G,0,none⟩) N cap vs M)(hx:Ext w0 w)(hb:base<=w0.heap.size){v:Value}(ho:o8 w w0.heap.size v l)(hi:i<N):
 A4 (w.setCell ⟨G,i,none⟩ v) base (some ⟨G,0,none⟩) N cap (vs.set i v) (M.set i l):=by
 have Bb:i<M.length:=by rw[h.len];exact hi
 have F1:i<vs.length:=by rw[h.Aj];exact hi
 have hW:=h.ext hx;obtain⟨G',J,DF,JG,_⟩:=h.outer b9;simp only[Option.some.injEq,Addr.mk.injEq,and_true]at J;subst J;have Ch:∀k,k≠G->(w.setCell ⟨G,i,none⟩ v).heap[k]?=w.heap[k]?:=fun k hk=>heap_setCell_other _ _ _ _ hk
 refine⟨?_,⟨by rw[List.length_set,List.length_set];exact h.rows.len,fun k hk=>?_,fun a b k JF zx hk k7=>?_⟩⟩
 ·have ho:=hW.own;unfold xe at ho;rw[hW.Aj]at ho;have:=(World.ownsRow.stored ho i v).1;unfold xe;rw[List.length_set,hW.Aj];exact this
 ·rw[List.length_set]at hk;by_cases D8:k=i
  ·subst D8;rw[List.getElem?_set_self F1,List.getElem?_set_self Bb];exact(ho.keep fun b Ij=>Ch b (j4 ((ho.lt b Ij).1))).mono hb
  ·rw[List.getElem?_set_ne (Ne.symm D8),List.getElem?_set_ne (Ne.symm D8)];refine(hW.rows.row k hk).keep fun b Ij=>Ch b fun e=>?_
   subst e;exact(hW.rows.row k hk).apart hW.own _ Ij rfl
 ·rw[List.length_set]at zx;by_cases I:a=i
  ·subst I;rw[List.getElem?_set_self F1]at hk;rw[List.getElem?_set_ne b9]at k7;have h1:=(ho.lt k hk).1;have h2:=((h.rows.row b zx).lt k k7).2;omega
  ·rw[List.getElem?_set_ne (Ne.symm I)]at hk;by_cases Ck:b=i
   ·subst Ck;rw[List.getElem?_set_self F1]at k7;have h1:=(ho.lt k k7).1;have h2:=((h.rows.row a b9).lt k hk).2;omega
   ·rw[List.getElem?_set_ne (Ne.symm Ck)]at k7;exact h.rows.apart a b k JF zx hk k7
def Hl(l:List Value)(a b:Nat):List Value:=(l.set a (l[b]?.getD undef)).set b (l[a]?.getD undef)
theorem rG(l:List Value)(a b:Nat):(Hl l a b).length=l.length:=by simp[Hl]
theorem jv{l:List Value}{a:Nat}(ha:a<l.length)(hb:b<l.length)(i:Nat):(Hl l a b)[i]?.getD undef=if i=b then l[a]?.getD undef else if i=a then l[b]?.getD undef else l[i]?.getD undef:=by
 unfold Hl;by_cases h1:i=b
 ·subst h1;rw[if_pos rfl,List.getElem?_set_self (by simp[hb])];rfl
 ·rw[if_neg h1,List.getElem?_set_ne (Ne.symm h1)];by_cases h2:i=a
  ·subst h2;rw[if_pos rfl,List.getElem?_set_self ha];rfl
  ·rw[if_neg h2,List.getElem?_set_ne (Ne.symm h2)]
theorem bC.apart'(h:bC w base vs L)(I:i≠j)(hi:i<L.length)(hj:j<L.length)(hk:(vs[i]?.getD undef).ownBlock=some k):(vs[j]?.getD undef).ownBlock≠some k:=by
 rcases Nat.lt_or_gt_of_ne I with h1|h1
 ·exact h.apart i j k h1 hj hk
 ·exact fun e=>h.apart j i k h1 hi e hk
theorem A4.swap{cap:Nat}(h:A4 w base (some ⟨G,0,none⟩) N cap vs M){a:Nat}(ha:a<N)(hb:b<N):
 A4 ((w.setCell ⟨G,a,none⟩ (vs[b]?.getD undef)).setCell ⟨G,b,none⟩ (vs[a]?.getD undef)) base (some ⟨G,0,none⟩) N cap (Hl vs a b) (swp M a b):=by
 have Vg:a<M.length:=by rw[h.len];exact ha
 have I3:b<M.length:=by rw[h.len];exact hb
 have hva:a<vs.length:=by rw[h.Aj];exact ha
 have AD:b<vs.length:=by rw[h.Aj];exact hb
 have o9:∀i,i<M.length->(swp M a b)[i]?.getD []=if i=b then M[a]?.getD [] else if i=a then M[b]?.getD [] else M[i]?.getD []:=fun i _=>hU Vg I3 i
 have Ch:∀k,k≠G->((w.setCell ⟨G,a,none⟩ (vs[b]?.getD undef)).setCell ⟨G,b,none⟩ (vs[a]?.getD undef)).heap[k]?=w.heap[k]?:=fun k hk=>by rw[heap_setCell_other _ _ _ _ hk,heap_setCell_other _ _ _ _ hk]
 refine⟨?_,⟨by rw[rG,cL];exact h.rows.len,fun i hi=>?_,fun i j k IW hj hk k7=>?_⟩⟩
 ·have ho:=h.own;unfold xe at ho;rw[h.Aj]at ho;have h1:=(World.ownsRow.stored ho a (vs[b]?.getD undef)).1;have h2:=(World.ownsRow.stored h1 b (vs[a]?.getD undef)).1;unfold xe;rw[rG,h.Aj];exact h2
 ·rw[cL]at hi;have key:∀k,k<M.length->o8 ((w.setCell ⟨G,a,none⟩ (vs[b]?.getD undef)).setCell ⟨G,b,none⟩ (vs[a]?.getD undef)) base (vs[k]?.getD undef) (M[k]?.getD []):=fun k hk =>
   (h.rows.row k hk).keep fun c hc=>Ch c fun e=>by subst e;exact(h.rows.row k hk).apart h.own _ hc rfl
  rw[jv hva AD,o9 i hi]
  split
  ·exact key a Vg
  ·split
   ·exact key b I3
   ·exact key i hi
 ·rw[cL]at hj;rw[jv hva AD]at hk k7;have hi:i<M.length:=by omega
  have pick:∀i,i<M.length->∃s,s<M.length/\(if i=b then vs[a]?.getD undef else if i=a then vs[b]?.getD undef else vs[i]?.getD undef)=vs[s]?.getD undef/\s=(if i=b then a else if i=a then b else i):=fun i hi=>by
   split
   ·exact⟨a,Vg,rfl,rfl⟩
   ·split
    ·exact⟨b,I3,rfl,rfl⟩
    ·exact⟨i,hi,rfl,rfl⟩
  obtain⟨s,hs,e1,J⟩:=pick i hi;obtain⟨t,ht,e2,I⟩:=pick j hj;rw[e1]at hk;rw[e2]at k7;refine h.rows.apart' (i:=s) (j:=t) ?_ hs ht hk k7;rw[J,I]
  split<;>split<;>(try split)<;>(try split)<;>omega
theorem bC.AM{w':World}{base':Nat}{v:Value}(h:bC w base vs L){us:List Value}(hv:xe w base' v us)(hg:w.grownBy w' v.ownBlock):bC w' base vs L :=
 h.keep fun i k hi hk=>hg.block k ((h.row i hi).lt k hk).2 fun e=>(h.row i hi).apart hv k hk e.symm
theorem et.at'{cap:Nat}(h:et w (some ⟨G,0,none⟩) N cap L)(hk:k<N):
 ∃a m c,w.cell? ⟨G,k,none⟩=some (.slice a m c)/\Ints w a m c (L[k]?.getD []):=by
 obtain⟨b,off,a,m,c,he,hc,hr⟩:=h.at hk;simp only[Option.some.injEq,Addr.mk.injEq,and_true]at he;obtain⟨rfl,rfl⟩:=he;rw[Nat.zero_add]at hc;exact⟨a,m,c,hc,hr⟩
theorem et.Im{cap:Nat}(h:et w (some ⟨G,0,none⟩) N cap L)(hd:d<=N):et w (if cap=d then some ⟨G,0,none⟩ else some ⟨G,d,none⟩) (N-d) (cap-d) (L.drop d):=by
 refine⟨by rw[List.length_drop,h.hlen],by have:=h.o3;omega,by have:=h.l9;omega,fun k hk=>?_⟩;have hc:¬cap=d:=by have:=h.o3;omega
 rw[if_neg hc];refine⟨G,d,rfl,fun k hk=>?_⟩;obtain⟨a,m,c,h1,h2⟩:=h.at' (k:=d+k) b9;refine⟨a,m,c,h1,?_⟩;rw[List.getElem?_drop];exact h2
end Go.Proofs.YtalmoolkhcgmmaaGreat
