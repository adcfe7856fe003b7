import Derived.Test.YthjjfkeacobikaaGreatPuAllG13
import Derived.Outline
import Derived.Test.YthjjfkeacobikaaGreatPuAllG11
set_option linter.unusedVariables false
set_option linter.unusedSimpArgs false
namespace Go.Proofs.YthjjfkeacobikaaGreat
set_option maxRecDepth 100000
open Go.RowKit
theorem RMat.inrow {w:World} {base G N cap:Nat} {vs:List Value} {M:List (List (Int × Int))} (h:RMat w base (some ⟨G,0,none⟩) N cap vs M) {i n g c:Nat} (hi:i<N) (hv:vs[i]?.getD undef=.slice (some ⟨g,0,none⟩) n c) {j:Nat} (hj:j<(M[i]?.getD []).length) (x y:Int) :
 RMat ((w.setCell ⟨g,j*2,none⟩ (.int .i64 x)).setCell ⟨g,j*2+1,none⟩ (.int .i64 y)) base (some ⟨G,0,none⟩) N cap vs (M.set i ((M[i]?.getD []).set j (x,y))):=by
 have hil:i<M.length:=by rw [h.len];exact hi
 have hr:=h.rows.row i hil;rw [hv] at hr;have hgG:g ≠ G:=fun e=>hr.apart h.own g rfl (by subst e;rfl)
 have hset:∀ k,k ≠ g->((w.setCell ⟨g,j*2,none⟩ (.int .i64 x)).setCell ⟨g,j*2+1,none⟩ (.int .i64 y)).heap[k]?=w.heap[k]?:=fun k hk=>by
  rw [heap_setCell_other _ _ _ _ hk,heap_setCell_other _ _ _ _ hk]
 refine ⟨h.own.keep fun k hk=>hset k (by simp only [Value.ownBlock,Option.some.injEq] at hk;show k ≠ g;omega),?_⟩;refine ⟨by rw [List.length_set];exact h.rows.len,fun k hk=>?_,fun a b k hab hb=>h.rows.apart a b k hab (by rw [List.length_set] at hb;exact hb)⟩;rw [List.length_set] at hk;by_cases hki:k=i
 ·subst hki;rw [hv,List.getElem?_set_self hil];exact hr.set hj x y
 ·rw [List.getElem?_set_ne (Ne.symm hki)];refine (h.rows.row k hk).keep fun b hb=>hset b fun e=>?_
  subst e
  rcases Nat.lt_or_gt_of_ne hki with hlt|hlt
  ·exact h.rows.apart k i _ hlt hil hb (by rw [hv];rfl)
  ·exact h.rows.apart i k _ hlt hk (by rw [hv];rfl) hb
structure TbM (w:World) (base g G N cap:Nat) (vb:Value) (x:Int) (vs:List Value) (M:List (List (Int × Int))) (l:List Int):Prop where
 box:w.heap[g]?=some (.cells #[.slice (some ⟨G,0,none⟩) N cap,vb,.int .i64 x] 83 (0,0))
 hg:base<=g
 m:RMat w base (some ⟨G,0,none⟩) N cap vs M
 b:OwnI w base vb l
section
variable {w:World} {base g G N cap:Nat} {vb:Value} {x:Int} {vs:List Value} {M:List (List (Int × Int))} {l:List Int}
theorem TbM.ext {w':World} (h:TbM w base g G N cap vb x vs M l) (hx:Ext w w'):TbM w' base g G N cap vb x vs M l:=⟨(hx.block _ (lt_of_block h.box)).trans h.box,h.hg,h.m.ext hx,h.b.ext hx⟩
theorem TbM.own (h:TbM w base g G N cap vb x vs M l):OwnT w base (.slice (some ⟨G,0,none⟩) N cap) vb vs ⟨M,l,x⟩:=⟨h.m.own,h.m.rows,h.b⟩
theorem TbM.c0 (h:TbM w base g G N cap vb x vs M l):w.cell? ⟨g,0,none⟩=some (.slice (some ⟨G,0,none⟩) N cap):=al h.box
theorem TbM.rowNe (h:TbM w base g G N cap vb x vs M l) {i:Nat} {g':Nat} (hi:i<M.length) (hv:(vs[i]?.getD undef).ownBlock=some g'):g' ≠ g/\vb.ownBlock ≠ some g':=by
 have hr:=h.m.rows.row i hi;exact ⟨fun e=>(an hr h.box (by decide)) (by rw [hv,e]),fun e=>au (by decide) hr h.b g' hv e⟩
theorem TbM.inrow (h:TbM w base g G N cap vb x vs M l) {i n g' c:Nat} (hi:i<N) (hv:vs[i]?.getD undef=.slice (some ⟨g',0,none⟩) n c) {j:Nat} (hj:j<(M[i]?.getD []).length) (p q:Int) :
 TbM ((w.setCell ⟨g',j*2,none⟩ (.int .i64 p)).setCell ⟨g',j*2+1,none⟩ (.int .i64 q)) base g G N cap vb x vs (M.set i ((M[i]?.getD []).set j (p,q))) l:=by
 obtain ⟨h1,h2⟩:=h.rowNe (i:=i) (g':=g') (by rw [h.m.len];exact hi) (by rw [hv];rfl);refine ⟨?_,h.hg,h.m.inrow hi hv hj p q,h.b.keep fun k hk=>?_⟩
 ·rw [heap_setCell_other _ _ _ _ h1.symm,heap_setCell_other _ _ _ _ h1.symm];exact h.box
 ·have:k ≠ g':=fun e=>h2 (by rw [hk,e])
  rw [heap_setCell_other _ _ _ _ this,heap_setCell_other _ _ _ _ this]
theorem TbM.put {w2:World} (h:TbM w base g G N cap vb x vs M l) (hx:Ext w w2) (hb:base<=w.heap.size) {v:Value} {r:List (Int × Int)} (ho:OwnR w2 w.heap.size v r) {i:Nat} (hi:i<N) :
 TbM (w2.setCell ⟨G,i,none⟩ v) base g G N cap vb x (vs.set i v) (M.set i r) l:=by
 have h2:=h.ext hx;have hG:g ≠ G:=fun e=>(an h.m.own h.box (by decide)) (by rw [e];rfl)
 refine ⟨by rw [heap_setCell_other _ _ _ _ hG];exact h2.box,h.hg,h.m.put hx hb ho hi,h2.b.keep fun k hk=>heap_setCell_other _ _ _ _ fun e=>?_⟩;exact au (by decide) h2.b h2.m.own k hk (by subst e;rfl)
theorem TbM.putB {B n bc:Nat} (h:TbM w base g G N cap (.slice (some ⟨B,0,none⟩) n bc) x vs M l) (i:Nat) (z:Int) :
 TbM (w.setCell ⟨B,i,none⟩ (.int .i64 z)) base g G N cap (.slice (some ⟨B,0,none⟩) n bc) x vs M (l.set i z):=by
 have hBg:g ≠ B:=fun e=>(an h.b h.box (by decide)) (by rw [e];rfl)
 refine ⟨by rw [heap_setCell_other _ _ _ _ hBg];exact h.box,h.hg,h.m.keep (fun k hk=>heap_setCell_other _ _ _ _ fun e=>?_) (fun j k hj hk=>heap_setCell_other _ _ _ _ fun e=>?_),h.b.set i z⟩
 ·exact au (by decide) h.m.own h.b k hk (by subst e;rfl)
 ·exact au (by decide) (h.m.rows.row j (by rw [h.m.len];exact hj)) h.b k hk (by subst e;rfl)
end
def bE (t:Tb) (row col:Int):Tb:=(aQ t row col).getD t
theorem lm {t:Tb} {row col:Int} (h:cD t row col=false):aQ t row col=none:=by unfold aQ;rw [h];rfl
theorem fz {t:Tb} {r c:Nat} (h:cD t (r:Int) (c:Int)=true):aQ t r c=et t r c:=by unfold aQ;rw [if_pos h];rfl
theorem fw {t:Tb} {r c:Nat} (h:divL (t.row r) (t.at r c)=none):et t r c=none:=by unfold et;rw [h];rfl
theorem gw {t:Tb} {r c:Nat} {main:List (Int × Int)} (h:divL (t.row r) (t.at r c)=some main):et t r c=(pivN t r c main t.rows.length).map fun rs=>⟨rs,t.basis.set r (c:Int),t.cols⟩:=by unfold et;rw [h];rfl
theorem is {t:Tb} {r c:Nat} {main:List (Int × Int)} {k:Nat} (h:pivN t r c main k=none):∀ {n:Nat},k<=n->pivN t r c main n=none
 | n,hn=>by
   obtain ⟨d,rfl⟩:∃ d,n=k+d:=⟨n-k,by omega⟩;clear hn
   induction d with
   | zero=>exact h
   | succ d ih=>show (pivN t r c main (k+d)).bind _=none;rw [ih];rfl
theorem li {t:Tb} {r c:Nat} {main:List (Int × Int)} (hr:r<t.rows.length):∀ {k:Nat} {M:List (List (Int × Int))},pivN t r c main k=some M->M.length=t.rows.length/\M[r]?.getD []=main
 | 0,M,h=>by
   simp only [pivN,Option.some.injEq] at h;subst h;exact ⟨by simp,by rw [List.getElem?_set_self hr];rfl⟩
 | k+1,M,h=>by
   simp only [pivN] at h;cases e:pivN t r c main k with
   | none=>rw [e] at h;cases h
   | some s0 =>
     rw [e] at h;simp only [Option.bind_some] at h;obtain ⟨h1,h2⟩:=li hr e;unfold pivF at h
     split at h
     ·simp only [Option.some.injEq] at h;subst h;exact ⟨h1,h2⟩
     ·next hn =>
      rw [Option.map_eq_some_iff] at h;obtain ⟨x,_,rfl⟩:=h;refine ⟨by rw [List.length_set,h1],?_⟩;rw [List.getElem?_set_ne (fun e=>hn (.inl e))];exact h2
theorem it {t:Tb} {r c:Nat} {main:List (Int × Int)} {k:Nat} {M:List (List (Int × Int))} (h:pivN t r c main k=some M) (hs:k=r ∨ t.at k c=(0,1)):pivN t r c main (k+1)=some M:=by
 simp only [pivN,h,Option.bind_some,pivF,if_pos hs]
theorem kA {t:Tb} {r c:Nat} {main:List (Int × Int)} {k:Nat} {M:List (List (Int × Int))} (h:pivN t r c main k=some M) (hs:¬ (k=r ∨ t.at k c=(0,1))):pivN t r c main (k+1)=(sclL (t.row k) (negR (t.at k c)) main).map fun x=>M.set k x:=by
 simp only [pivN,h,Option.bind_some,pivF,if_neg hs]
theorem divMid {r m:List (Int × Int)} {j:Nat} {q:Int × Int} (hm:m.length=j) (hj:j<r.length):(m++r.drop j).set j q=(m++[q])++r.drop (j+1):=by
 rw [List.set_append_right _ _ (by omega),hm,Nat.sub_self,List.drop_eq_getElem_cons hj,List.set_cons_zero,List.append_assoc];rfl
end Go.Proofs.YthjjfkeacobikaaGreat
namespace Go.Proofs.YthjjfkeacobikaaGreat
set_option maxRecDepth 100000
open Go.RowKit
def PivR (w:World) (base:Nat) (e:Ending) (t:Tb) (ok:Bool):Prop:=∃ va vb vs,e=.returned (.tuple #[.agg #[va,vb,.int .i64 t.cols],.bool ok])/\OwnT w base va vb vs t
section
variable {w:World} {ra:Option Addr} {rn rc:Nat} {ba:Option Addr} {bn bc:Nat} {t:Tb}
set_option maxHeartbeats 16000000 in
theorem jM (h:TbC w ra rn rc ba bn bc t) (hrn:rn<=100000) (hbn:bn<=100000) (hrl:∀ i,i<rn->(t.row i).length<=1048576) (row col:Int) (hno:cD t row col=false) :
 Calls Tryz.prog 55 #[tbW ra rn rc ba bn bc t.cols,.int .i64 row,.int .i64 col] w fun e w'=>PivR w' w.heap.size e t false/\Ext w w':=by
 have hx0:=(Ext.alloc w (bp ra rn rc ba bn bc t.cols)).trans (Ext.alloc _ (.cells #[.slice none 0 0,.slice none 0 0,.int .i64 0] 83));obtain ⟨W,hW⟩:∃ W,W=(w.alloc (bp ra rn rc ba bn bc t.cols)).alloc (.cells #[.slice none 0 0,.slice none 0 0,.int .i64 0] 83):=⟨_,rfl⟩;rw [<-hW] at hx0;have HX0:=ae hx0;have H:=ae (h.ext hx0);have HF:=ae (fM H.out (by omega));have HTP:=ae (fun ok=>eP h ok);have HCL:=ae (fun (w':World) (hx:Ext W w')=>gL (H.out.ext hx) (by omega) (by omega) hrl);have HGB:=ae (show W.heap[w.heap.size+1]?=some (.cells #[.slice none 0 0,.slice none 0 0,.int .i64 0] 83 (0,0)) by rw [hW];exact aj _ _ _ (by simp));have HTB:=ae (show W.heap[w.heap.size]?=some (.cells #[.slice ra rn rc,.slice ba bn bc,.int .i64 t.cols] 83 (0,0)) by rw [hW,bz _ _ _ (by simp)];exact aj _ _ _ rfl);have HSW:=ae (show W.heap.size=w.heap.size+1+1 by rw [hW];simp);have hr1:=h.rows.hcap;have hr2:=h.rows.hmax;obtain ⟨rows,basis,x⟩:=t
 have HNO:=ae (show (tbOk ⟨rows,basis,x⟩&&(inB row 0 ((rn:Int)-1)&&inB col 0 (x+(rn:Int)-1)))=false by
  have:=hno;unfold cD at this;simp only at this;rw [h.rows.hlen] at this;exact this)
 clear h hx0 hrl hno
 show Calls _ _ #[tbW ra rn rc ba bn bc x,.int .i64 row,.int .i64 col] w _;cases hok:tbOk ⟨rows,basis,x⟩
 ·rw [hok] at HF;clear hok;go_enter Tryz.func55,Tryz.ntmps55
  go_upto_region 1 with fail;rw [<-hW];clear hW;have p0:=al HTB.out;have p1:=am HTB.out;have p2:=ap HTB.out;go_wp2_with fail;refine HF.out.mono ?_;rintro e w1 ⟨rfl,hx⟩;have X1:=ae hx;clear hx p0 p1 p2;have p0:=al (X1.out.blk HTB.out);have p1:=am (X1.out.blk HTB.out);have p2:=ap (X1.out.blk HTB.out);go_wp2_with fail;refine (HCL.out _ X1.out).mono ?_;rintro e w2 ⟨⟨va,vb,vs,rfl,ho⟩,hx⟩;have X2:=ae (X1.out.trans hx);have HO:=ae ho;obtain ⟨a7,n7,c7,rfl,HN7⟩:=ho.a.var;obtain ⟨a8,n8,c8,rfl,HN8⟩:=ho.b.var;have r0:=al (X2.out.blk HGB.out);have r1:=am (X2.out.blk HGB.out);have r2:=ap (X2.out.blk HGB.out);have rf:=bK (X2.out.blk HGB.out);have hsz:=X1.out.size;have hww:=HSW.out;clear hx ho p0 p1 p2;go_wp2_with fail;refine bodyPost_ret (v:=.tuple #[.agg #[.slice a7 n7 c7,.slice a8 n8 c8,.int .i64 x],.bool false]) (by simp [results,Tryz.results55,go_sem,r0,r1,r2,rf]) rfl ⟨⟨_,_,vs,rfl,(HO.out.keepAll fun k hk=>aV _ _ _ _ _ _ (by omega)).mono (by omega)⟩,(HX0.out.trans X2.out).set3 (Nat.le_succ _) _ _ _⟩
 ·rw [hok] at HF;obtain ⟨m,hxm,hm,hbr,_,_⟩:=HTP.out hok;simp only at hxm;subst hxm hbr;have HNO2:=ae (show (inB row 0 ((bn:Int)-1)&&inB col 0 ((m:Int)+(bn:Int)-1))=false by have:=HNO.out;rw [hok] at this;simpa using this);have HR1:=ae (fun w=>aU row 0 ((bn:Int)-1) w);have HR2:=ae (fun w=>aU col 0 ((m:Int)+(bn:Int)-1) w);clear hok;cases hin:inB row 0 ((bn:Int)-1)
  case' true =>
   have hin2:inB col 0 ((m:Int)+(bn:Int)-1)=false:=by have:=HNO2.out;rw [hin] at this;simpa using this
   simp only [hin2] at HR2;clear hin2
  all_goals
   simp only [hin] at HR1;clear hin;go_enter Tryz.func55,Tryz.ntmps55
   go_upto_region 1 with fail;rw [<-hW];clear hW;have p0:=al HTB.out;have p1:=am HTB.out;have p2:=ap HTB.out;go_wp2_with fail;refine HF.out.mono ?_;rintro e w1 ⟨rfl,hx⟩;have X1:=ae hx;clear hx p0 p1 p2;have p0:=al (X1.out.blk HTB.out);have p1:=am (X1.out.blk HTB.out);have p2:=ap (X1.out.blk HTB.out);go_wp2_with fail;refine (HR1.out _).mono ?_;rintro e w1' ⟨rfl,rfl⟩;go_wp2_with fail
  all_goals
   try (
    with_reducible refine (HR2.out _).mono ?_
    rintro e w1' ⟨rfl,rfl⟩
    go_wp2_with fail)
   refine (HCL.out _ X1.out).mono ?_;rintro e w2 ⟨⟨va,vb,vs,rfl,ho⟩,hx⟩;have X2:=ae (X1.out.trans hx);have HO:=ae ho;obtain ⟨a7,n7,c7,rfl,HN7⟩:=ho.a.var;obtain ⟨a8,n8,c8,rfl,HN8⟩:=ho.b.var;have r0:=al (X2.out.blk HGB.out);have r1:=am (X2.out.blk HGB.out);have r2:=ap (X2.out.blk HGB.out);have rf:=bK (X2.out.blk HGB.out);have hsz:=X1.out.size;have hww:=HSW.out;clear hx ho p0 p1 p2;go_wp2_with fail;refine bodyPost_ret (v:=.tuple #[.agg #[.slice a7 n7 c7,.slice a8 n8 c8,.int .i64 (m:Int)],.bool false]) (by simp [results,Tryz.results55,go_sem,r0,r1,r2,rf]) rfl ⟨⟨_,_,vs,rfl,(HO.out.keepAll fun k hk=>aV _ _ _ _ _ _ (by omega)).mono (by omega)⟩,(HX0.out.trans X2.out).set3 (Nat.le_succ _) _ _ _⟩
end
end Go.Proofs.YthjjfkeacobikaaGreat
namespace Go.Proofs.YthjjfkeacobikaaGreat
set_option maxRecDepth 100000
open Go.RowKit
section
variable {w:World} {ra:Option Addr} {rn rc:Nat} {ba:Option Addr} {bn bc:Nat} {t:Tb}
set_option maxHeartbeats 32000000 in
theorem jN (h:TbC w ra rn rc ba bn bc t) (hrn:rn<=100000) (hbn:bn<=100000) (hval:∀ i j,-9223372036854775807<=(t.at i j).1/\(t.at i j).1<=9223372036854775807) (row col:Int) (hyes:cD t row col=true) :
 Calls Tryz.prog 55 #[tbW ra rn rc ba bn bc t.cols,.int .i64 row,.int .i64 col] w fun e w'=>PivR w' w.heap.size e (bE t row col) (aQ t row col).isSome/\Ext w w':=by
 have hx0:=(Ext.alloc w (bp ra rn rc ba bn bc t.cols)).trans (Ext.alloc _ (.cells #[.slice none 0 0,.slice none 0 0,.int .i64 0] 83));obtain ⟨W,hW⟩:∃ W,W=(w.alloc (bp ra rn rc ba bn bc t.cols)).alloc (.cells #[.slice none 0 0,.slice none 0 0,.int .i64 0] 83):=⟨_,rfl⟩;rw [<-hW] at hx0;have HX0:=ae hx0;have H:=ae (h.ext hx0);have hok:tbOk t=true:=by unfold cD at hyes;simp only [Bool.and_eq_true] at hyes;exact hyes.1
 have HF:=ae (fM H.out (by omega));rw [hok] at HF;obtain ⟨m,hxm,hm,hbr,hrl0,hbs0⟩:=eP h hok;subst hbr;have hrl:∀ i,i<bn->(t.row i).length<=1048576:=fun i hi=>by rw [hrl0 i hi];omega
 have HCL:=ae (fun (w':World) (hx:Ext W w')=>gL (H.out.ext hx) (by omega) (by omega) hrl);have HGB:=ae (show W.heap[w.heap.size+1]?=some (.cells #[.slice none 0 0,.slice none 0 0,.int .i64 0] 83 (0,0)) by rw [hW];exact aj _ _ _ (by simp));have HTB:=ae (show W.heap[w.heap.size]?=some (.cells #[.slice ra bn rc,.slice ba bn bc,.int .i64 t.cols] 83 (0,0)) by rw [hW,bz _ _ _ (by simp)];exact aj _ _ _ rfl);have HSW:=ae (show W.heap.size=w.heap.size+1+1 by rw [hW];simp);have hr1:=h.rows.hcap;have hr2:=h.rows.hmax;obtain ⟨rows,basis,x⟩:=t;simp only at hxm;subst hxm;have HLR:=ae (show rows.length=bn from h.rows.hlen);have HLB:=ae (show basis.length=bn from h.basis.hlen);have hin:inB row 0 ((bn:Int)-1)=true/\inB col 0 ((m:Int)+(bn:Int)-1)=true:=by
  have:=hyes;unfold cD at this;simp only [Bool.and_eq_true] at this;rw [h.rows.hlen] at this;exact this.2
 obtain ⟨hin1,hin2⟩:=hin;obtain ⟨r,rfl⟩:∃ r:Nat,row=r:=⟨row.toNat,by simp [inB] at hin1;omega⟩;obtain ⟨c,rfl⟩:∃ c:Nat,col=c:=⟨col.toNat,by simp [inB] at hin2;omega⟩;have hrb:r<bn:=by simp [inB] at hin1;omega
 obtain ⟨u,hu⟩:∃ u,u=m+bn+1:=⟨_,rfl⟩;have hcu:c<u:=by simp [inB] at hin2;omega
 have hub:u<=200000:=by omega
 have HR1:=ae (fun w=>aU (r:Int) 0 ((bn:Int)-1) w);have HR2:=ae (fun w=>aU (c:Int) 0 ((m:Int)+(bn:Int)-1) w);simp only [hin1] at HR1;simp only [hin2] at HR2;obtain ⟨T,hT⟩:∃ T,T=Tb.mk rows basis (m:Int):=⟨_,rfl⟩;have HRL:=ae (show ∀ i,i<bn->(T.row i).length=u by rw [hT,hu];exact hrl0);rw [<-hT] at hyes;have HYG:=ae (fz hyes);have HTR:=ae (show T.rows=rows/\T.basis=basis/\T.cols=(m:Int) by rw [hT];exact ⟨rfl,rfl,rfl⟩);have HRW:=ae (show ∀ i,T.row i=rows[i]?.getD [] by intro i;rw [hT];rfl);rw [<-hT] at HCL;have HH:=ae (show eW W ra bn rc rows from H.out.rows);have HCM:=ae (show T.cols=(m:Int) by rw [hT]);rw [<-hT] at hval;have HVAL:=ae hval;clear hval;rw [HCM.out] at HCL;clear h hx0 hrl hyes hin1 hin2 hok hrl0 hbs0 hu H;have hshow:bE (Tb.mk rows basis (m:Int)) (r:Int) (c:Int)=bE T (r:Int) (c:Int)/\aQ (Tb.mk rows basis (m:Int)) (r:Int) (c:Int)=aQ T (r:Int) (c:Int):=by rw [hT];exact ⟨rfl,rfl⟩
 rw [hshow.1,hshow.2];clear hshow hT
 show Calls _ _ #[tbW ra bn rc ba bn bc (m:Int),.int .i64 (r:Int),.int .i64 (c:Int)] w _;have hrr:(r:Int)<(bn:Int):=by omega
 have hr0:(0:Int)<=(r:Int):=by omega
 go_enter Tryz.func55,Tryz.ntmps55
 go_upto_region 1 with fail;rw [<-hW];clear hW;have p0:=al HTB.out;have p1:=am HTB.out;have p2:=ap HTB.out;go_wp2_with fail;refine HF.out.mono ?_;rintro e w1 ⟨rfl,hx⟩;have X1:=ae hx;clear hx p0 p1 p2;have p0:=al (X1.out.blk HTB.out);have p1:=am (X1.out.blk HTB.out);have p2:=ap (X1.out.blk HTB.out);go_wp2_with fail;refine (HR1.out _).mono ?_;rintro e w1' ⟨rfl,rfl⟩;go_wp2_with fail;refine (HR2.out _).mono ?_;rintro e w1' ⟨rfl,rfl⟩;go_wp2_with fail;refine (HCL.out _ X1.out).mono ?_;rintro e w2 ⟨⟨va,vb,vs,rfl,ho⟩,hx⟩;have X2:=ae (X1.out.trans hx);obtain ⟨aa,na,ca,rfl,HNA⟩:=ho.a.var;obtain ⟨ab,nb,cb,rfl,HNB⟩:=ho.b.var;obtain rfl:na=bn:=by have h1:=ho.rows.len;have h2:=HTR.out.1;have h3:=HLR.out;have h4:=HNA.out;rw [h2] at h1;omega
 obtain rfl:nb=na:=by have h1:=HNB.out;have h2:=HTR.out.2.1;have h3:=HLB.out;rw [h2] at h1;omega
 obtain ⟨G,hG,_,_⟩:=ho.a.cell hrb;subst hG;obtain ⟨B,hB,_,_,_⟩:=ho.b.block hrb;subst hB;obtain ⟨E,hE⟩:∃ E,E=w2.alloc (.cells #[.slice (some ⟨G,0,none⟩) nb ca,.slice (some ⟨B,0,none⟩) nb cb,.int .i64 (m:Int)] 83):=⟨_,rfl⟩;have hxE:Ext w2 E:=by rw [hE];exact Ext.alloc _ _
 have hbs2:w1.heap.size<=w2.heap.size:=hx.size;have HVS:=ae (fun i g' (hi:i<nb) (he:(vs[i]?.getD undef).ownBlock=some g')=>((ho.rows.row i (by rw [HTR.out.1,HLR.out];exact hi)).lt g' he).2)
 have HM0:=ae (show TbM E w1.heap.size w2.heap.size G nb ca (.slice (some ⟨B,0,none⟩) nb cb) (m:Int) vs rows basis from
  ⟨by rw [hE];exact aj _ _ _ rfl,hbs2,⟨ho.a.ext hxE,by have:=ho.rows.ext hxE;rw [HTR.out.1] at this;exact this⟩,by have:=ho.b.ext hxE;rw [HTR.out.2.1] at this;exact this⟩)
 have XE:=ae (X2.out.trans hxE);have X1E:=ae (hx.trans hxE);have hsw1:w.heap.size+1+1<=w1.heap.size:=by have:=X1.out.size;have:=HSW.out;omega
 have hsE:w1.heap.size<=E.heap.size:=by have:=hxE.size;omega
 have HSE:=ae hxE.size;clear ho p0 p1 p2 hx;go_upto_region 4 with fail;rw [<-hE];clear hE hxE;have p0:=al (XE.out.blk HTB.out);obtain ⟨zb,zoff,za,zn,zc,hza,hzW,hrow⟩:=HH.out.at hrb;subst hza;have hzn:zn=u:=by rw [<-hrow.hlen,<-HRW.out];exact HRL.out r hrb
 subst hzn;have hrc1:=hrow.hcap;have hrc2:=hrow.hmax;have HROW:=ae (show Rats W za zn zc (T.row r) by rw [HRW.out];exact hrow);have HZW:=ae hzW;obtain ⟨pb,poff,pp,pq,hpa,hpv,hp0,hp1⟩:=(HROW.out.ext XE.out).at hcu;subst hpa;have hz0:=XE.out.cellSome HZW.out;have HPV:=ae (show T.at r c=(pp,pq) from hpv);have HLW:=ae (HRL.out r hrb);have hcc:(c:Int)<(zn:Int):=by omega
 have hc0:(0:Int)<=(c:Int):=by omega
 clear hpv hrow hzW;obtain ⟨E2,hE2⟩:∃ E2,E2=E.alloc (.cells #[.int .i64 pp,.int .i64 pq] 43):=⟨_,rfl⟩;have hxE2:Ext E E2:=by rw [hE2];exact Ext.alloc _ _
 have hsE2:E2.heap.size=E.heap.size+1:=by rw [hE2];simp
 have HM1:=ae (HM0.out.ext hxE2);have HPB:=ae (show E2.heap[E.heap.size]?=some (.cells #[.int .i64 pp,.int .i64 pq] 43 (0,0)) by rw [hE2];exact aj _ _ _ rfl);have X1E2:=ae (X1E.out.trans hxE2);have hw2E:w2.heap.size<=E.heap.size:=HSE.out;have HSE2:=ae hsE2;go_upto_region 5 with fail;rw [<-hE2];clear hE2 hxE2 p0 hz0 hp0 hp1 hsE2;have p0:=al ((X1.out.trans X1E2.out).blk HTB.out);have hz0:=(X1.out.trans X1E2.out).cellSome HZW.out;go_wp2_with fail
 go_loopg [60] zn (fun gk ii wr=>∃ (k:Nat) (mm:List (Int × Int)),Hid (gk+k=zn)/\ii=.int .i64 (k:Int)/\Hid (runT (divF (T.row r) (T.at r c)) k=some mm)/\Hid (TbM wr w1.heap.size w2.heap.size G nb ca (.slice (some ⟨B,0,none⟩) nb cb) (m:Int) vs (rows.set r (mm++(T.row r).drop k)) basis)/\Hid (Ext w1 wr)/\Hid (wr.heap[E.heap.size]?=some (.cells #[.int .i64 pp,.int .i64 pq] 43 (0,0))))
 case atStart =>
  refine ⟨0,[],ae (by omega),rfl,ae rfl,ae ?_,X1E2,HPB⟩;have h1:=HM1.out;have h2:rows.set r ([]++(T.row r).drop 0)=rows:=by
   rw [List.nil_append,List.drop_zero,HRW.out];refine List.ext_getElem? fun i=>?_
   by_cases hir:r=i
   ·subst hir;rw [List.getElem?_set_self (by rw [HLR.out];exact hrb),List.getElem?_eq_getElem (by rw [HLR.out];exact hrb)];rfl
   ·rw [List.getElem?_set_ne hir]
  rw [h2];exact h1
 case round =>
  obtain ⟨g1,h_g1⟩:∃ x,x=gk:=⟨_,rfl⟩;subst h_g1;obtain ⟨wr1,h_wr1⟩:∃ x,x=wr:=⟨_,rfl⟩;subst h_wr1;obtain ⟨k,mm,HK,rfl,HMM,HT,HX,HP⟩:=hrel;clear p0 hz0;have hsr:=HX.out.size;have hpl:=lt_of_block HP.out;by_cases hlt:k<zn
  ·obtain ⟨xb,xoff,ex,ey,hxa,hxv,hx0,hx1⟩:=(HROW.out.ext (X1.out.trans HX.out)).at hlt;simp only [Option.some.injEq,Addr.mk.injEq,and_true] at hxa;obtain ⟨rfl,rfl⟩:=hxa;have HXV:=ae hxv;have q0:wr1.cell? ⟨E.heap.size,0,none⟩=some (.int .i64 pp):=(ai HP.out).1;have q1:wr1.cell? ⟨E.heap.size,1,none⟩=some (.int .i64 pq):=(ai HP.out).2.1;obtain ⟨d1,d2,dok,hdd⟩:∃ x y ok,divR (ex,ey) (pp,pq)=((x,y),ok):=⟨_,_,_,rfl⟩;have HDF:=ae (show divF (T.row r) (T.at r c) k=if dok=true then some (d1,d2) else none by unfold divF;rw [HXV.out,HPV.out,hdd]);have HDV:=ae (fun w=>lP ex ey pp pq w);simp only [hdd] at HDV;clear hxv hdd;go_wp2_with fail;refine (HDV.out _).mono ?_;rintro e w5 ⟨rfl,hx⟩;have X5:=ae ((Ext.alloc wr1 (.cells #[.int .i64 ex,.int .i64 ey] 43)).trans hx);have X6:=ae (X5.out.trans (Ext.alloc w5 (.cells #[.int .i64 d1,.int .i64 d2] 43)));have hs5:=X5.out.size;clear hx q0 q1;obtain ⟨E5,hE5⟩:∃ E5,E5=w5.alloc (.cells #[.int .i64 d1,.int .i64 d2] 43):=⟨_,rfl⟩;have HQ:=ae (show E5.heap[w5.heap.size]?=some (.cells #[.int .i64 d1,.int .i64 d2] 43 (0,0)) by rw [hE5];exact aj _ _ _ rfl);rw [<-hE5] at X6;cases dok
   ·have HN:=ae (show aQ T (r:Int) (c:Int)=none by
     rw [HYG.out];refine fw ?_
     unfold divL;rw [HLW.out];exact fh HMM.out (by rw [HDF.out];rfl) hlt)
    go_upto_region 10 with fail;rw [<-hE5];clear hE5;have xf:=((X1.out.trans HX.out).trans X6.out);have p0:=al (xf.blk HTB.out);have p1:=am (xf.blk HTB.out);have p2:=ap (xf.blk HTB.out);have XF:=ae xf;clear xf;go_wp2_with fail;refine (HCL.out _ XF.out).mono ?_;rintro e w8 ⟨⟨va8,vb8,vs8,rfl,ho8⟩,hx⟩;have X8:=ae (XF.out.trans hx);have HO8:=ae ho8;obtain ⟨a7,n7,c7,rfl,HN7⟩:=ho8.a.var;obtain ⟨a8,n8,c8,rfl,HN8⟩:=ho8.b.var;have r0:=al (X8.out.blk HGB.out);have r1:=am (X8.out.blk HGB.out);have r2:=ap (X8.out.blk HGB.out);have rf:=bK (X8.out.blk HGB.out);have hsz:=XF.out.size;have hww:=HSW.out;clear hx ho8 p0 p1 p2;go_wp2_with fail;refine bodyPost_ret (v:=.tuple #[.agg #[.slice a7 n7 c7,.slice a8 n8 c8,.int .i64 (m:Int)],.bool false]) (by simp [results,Tryz.results55,go_sem,r0,r1,r2,rf]) rfl ⟨?_,(HX0.out.trans X8.out).set3 (Nat.le_succ _) _ _ _⟩;refine ⟨.slice a7 n7 c7,.slice a8 n8 c8,vs8,?_,?_⟩
    ·unfold bE;rw [HN.out,Option.getD_none,HCM.out];rfl
    ·unfold bE;rw [HN.out,Option.getD_none];exact (HO8.out.keepAll fun k hk=>aV _ _ _ _ _ _ (by omega)).mono (by omega)
   ·go_upto_region 11 with fail;rw [<-hE5];clear hE5;have HM2:=ae (dI (x:=(d1,d2)) HMM.out (by rw [HDF.out];rfl));have HLM:=ae (cW HMM.out);have HT5:=ae (HT.out.ext X6.out);have HROWr:=ae (show (rows.set r (mm++(T.row r).drop k))[r]?.getD []=mm++(T.row r).drop k by rw [List.getElem?_set_self (by rw [HLR.out];exact hrb)];rfl);have HLL:=ae (show (mm++(T.row r).drop k).length=zn by rw [List.length_append,List.length_drop,HLM.out,HLW.out];omega);obtain ⟨rg,rcap,hvr,hcr,hor,_,hbg,hgl,hc1,hc2⟩:=HT5.out.m.row hrb (n:=zn) (by rw [HROWr.out,HLL.out]) (by omega);obtain ⟨rg',_,_,_,he',_,ho0,ho1⟩:=hor.rats.at hlt;simp only [Option.some.injEq,Addr.mk.injEq,and_true] at he';obtain ⟨rfl,rfl⟩:=he';obtain ⟨rg',he',_,hfr,_⟩:=hor.block hlt;simp only [Option.some.injEq,Addr.mk.injEq,and_true] at he';subst he';have c8:=HT5.out.c0;have q0:E5.cell? ⟨w5.heap.size,0,none⟩=some (.int .i64 d1):=(ai HQ.out).1;have q1:E5.cell? ⟨w5.heap.size,1,none⟩=some (.int .i64 d2):=(ai HQ.out).2.1;have hk0:(0:Int)<=(k:Int):=by omega
    have hk1:(k:Int)<(zn:Int):=by omega
    have HVR:=ae hvr;have hrgE:rg ≠ E.heap.size:=by have:=HVS.out r rg hrb (by rw [HVR.out];rfl);omega
    have HNE:=ae hrgE;clear hvr hor hrgE;rw [Nat.zero_add] at ho0 ho1
    go_still_tail 8,(by kernel_rfl)
    have HT6:=ae (show TbM ((E5.drew.setCell ⟨rg,k*2,none⟩ (.int .i64 d1)).setCell ⟨rg,k*2+1,none⟩ (.int .i64 d2)) w1.heap.size w2.heap.size G nb ca (.slice (some ⟨B,0,none⟩) nb cb) (m:Int) vs (rows.set r ((mm++[(d1,d2)])++(T.row r).drop (k+1))) basis by
     have h1:=(HT5.out.ext (Ext.drew E5)).inrow hrb HVR.out (j:=k) (by rw [HROWr.out,HLL.out];exact hlt) d1 d2;rw [HROWr.out,List.set_set,divMid HLM.out (by rw [HLW.out];exact hlt)] at h1
     exact h1)
    have HX6:=ae (((HX.out.trans (X6.out.trans (Ext.drew E5))).setCell (p:=⟨rg,k*2,none⟩) hbg (.int .i64 d1)).setCell (p:=⟨rg,k*2+1,none⟩) hbg (.int .i64 d2))
    have HP6:=ae (show ((E5.drew.setCell ⟨rg,k*2,none⟩ (.int .i64 d1)).setCell ⟨rg,k*2+1,none⟩ (.int .i64 d2)).heap[E.heap.size]?=some (.cells #[.int .i64 pp,.int .i64 pq] 43 (0,0)) by
     rw [heap_setCell_other _ _ _ _ HNE.out.symm,heap_setCell_other _ _ _ _ HNE.out.symm];exact (X6.out.trans (Ext.drew E5)).blk HP.out)
    go_wp2_with fail
    go_roundg (g1-1)
    case measure=>have:=HK.out;omega
    case rel=>exact ⟨k+1,mm++[(d1,d2)],ae (by have:=HK.out;omega),by go_num,HM2,HT6,HX6,HP6⟩
  ·have hkn:zn=k:=by have:=HK.out;omega
   subst hkn;have HDL:=ae (show divL (T.row r) (T.at r c)=some mm by unfold divL;rw [HLW.out];exact HMM.out)
   have HPG:=ae (show aQ T (r:Int) (c:Int)=(pivN T r c mm nb).map fun rs=>⟨rs,basis.set r (c:Int),(m:Int)⟩ by
    rw [HYG.out,gw HDL.out,HTR.out.1,HLR.out,HTR.out.2.1,HCM.out])
   have HT0:=ae (show TbM wr1 w1.heap.size w2.heap.size G nb ca (.slice (some ⟨B,0,none⟩) nb cb) (m:Int) vs (rows.set r mm) basis by
    have h1:=HT.out
    rw [List.drop_eq_nil_of_le (by rw [HLW.out];exact Nat.le_refl _),List.append_nil] at h1;exact h1)
   have p0:=al ((X1.out.trans HX.out).blk HTB.out);clear hpl;go_wp2_with fail
   go_loopg [87] nb (fun gk ii wr=>∃ (k:Nat) (vs2:List Value) (M:List (List (Int × Int))),Hid (gk+k=nb)/\ii=.int .i64 (k:Int)/\Hid (pivN T r c mm k=some M)/\Hid (TbM wr w1.heap.size w2.heap.size G nb ca (.slice (some ⟨B,0,none⟩) nb cb) (m:Int) vs2 M basis)/\Hid (Ext w1 wr))
   case atStart=>exact ⟨0,vs,rows.set r mm,ae (by omega),rfl,ae (by simp only [pivN,HTR.out.1]),HT0,HX⟩
   case round =>
    obtain ⟨g2,h_g2⟩:∃ x,x=gk:=⟨_,rfl⟩;subst h_g2;obtain ⟨wr2,h_wr2⟩:∃ x,x=wr:=⟨_,rfl⟩;subst h_wr2;obtain ⟨k,vs2,M,HK2,rfl,HPN,HT2,HX2⟩:=hrel;clear p0;have hsr2:=HX2.out.size;by_cases hlt2:k<nb
    ·obtain ⟨zb2,zoff2,ya,yn,yc,hza2,hzk,hrowk⟩:=(HH.out.ext (X1.out.trans HX2.out)).at hlt2;simp only [Option.some.injEq,Addr.mk.injEq,and_true] at hza2;obtain ⟨rfl,rfl⟩:=hza2;obtain rfl:yn=zn:=by rw [<-hrowk.hlen,<-HRW.out,<-HLW.out,HRL.out k hlt2,HRL.out r hrb]
     have HRK:=ae (show Rats wr2 ya yn yc (T.row k) by rw [HRW.out];exact hrowk);obtain ⟨yb,yoff,p,q,hya,hpq,hy0,hy1⟩:=HRK.out.at hcu;subst hya;have HPQ:=ae (show T.at k c=(p,q) from hpq);have hyk1:=hrowk.hcap;have hyk2:=hrowk.hmax;clear hpq hrowk;have HSK:=ae (show decide (k=r ∨ T.at k c=(0,1))=(decide (k=r)||((p == 0)&&(q == 1))) by rw [HPQ.out,Bool.eq_iff_iff];simp);go_upto_region 16 with fail
     go_cut [102] (fun s102 wx=>s102=.bool (decide (k=r ∨ T.at k c=(0,1)))/\Hid (Ext wr2 wx))
     case first =>
      have hk2:Ext wr2 wr2.drew:=Ext.drew wr2;by_cases hkr:k=r
      ·have heq:((k:Int) == (r:Int))=true:=by simp;omega
       have HE9:=ae (show decide (k=r ∨ T.at k c=(0,1))=true by rw [HSK.out,decide_eq_true hkr];rfl);clear hkr;refine wp_region_held_drew (S:=(fun w'=>w'.cell? ⟨yb,yoff+c*2,none⟩=some (.int .i64 p)/\w'.cell? ⟨yb,yoff+c*2+1,none⟩=some (.int .i64 q)/\Ext wr2 w')) (by kernel_rfl) ?_ (fun hHeld=>?_)
       ·exact ⟨hk2.cellSome hy0,hk2.cellSome hy1,hk2⟩
       refine tk 0 ?_;refine tk 1 ?_;refine tk 2 ?_;refine tk 3 ?_;refine sk 4 ?_;refine sk 5 ?_;refine sk 6 ?_;refine sk 7 ?_;refine sk 8 ?_;refine sk 9 ?_;refine tk 10 ?_;refine wpAnyH_done (by kernel_rfl) ?_ _;go_wp2_with fail;go_meet;exact ⟨by rw [HE9.out],ae hk2⟩
      ·have heq:((k:Int) == (r:Int))=false:=by simp;omega
       have HE9:=ae (show decide (k=r ∨ T.at k c=(0,1))=((p == 0)&&(q == 1)) by rw [HSK.out,decide_eq_false hkr];rfl);clear hkr;cases h1:(p == 0)
       all_goals
        cases h2:(q == 1)
       all_goals
        have HE8:=ae HE9.out;rw [h1,h2] at HE8;refine wp_region_held_drew (S:=(fun w'=>w'.cell? ⟨yb,yoff+c*2,none⟩=some (.int .i64 p)/\w'.cell? ⟨yb,yoff+c*2+1,none⟩=some (.int .i64 q)/\Ext wr2 w')) (by kernel_rfl) ?_ (fun hHeld=>?_)
        ·exact ⟨hk2.cellSome hy0,hk2.cellSome hy1,hk2⟩
        refine tk 0 ?_;refine tk 1 ?_;refine tk 2 ?_;refine tk 3 ?_;refine tk 4 ?_;refine tk 5 ?_;refine tk 6 ?_;refine tk 7 ?_;refine rd (i:=8) (h:=fun K hK=>?_);go_simp
        (go_at_call 112;refine (cz _ _).mono ?_;rintro e w3 ⟨rfl,hx3⟩;have hk2:=hk2.trans hx3)
        go_wp2_with fail;refine hK.out _ _ ?_ (fun hHeld=>?_)
        ·exact ⟨hk2.cellSome hy0,hk2.cellSome hy1,hk2⟩
        clear hK K
        try simp only [Act.put,sA,sB,sC]
        refine tk 9 ?_;refine tk 10 ?_;refine wpAnyH_done (by kernel_rfl) ?_ _;go_wp2_with fail;go_meet;exact ⟨by rw [HE8.out];rfl,ae hk2⟩
     obtain ⟨rfl,HXC⟩:=hcut;have HT3:=ae (HT2.out.ext HXC.out);have HX3:=ae (HX2.out.trans HXC.out);have HRK3:=ae (HRK.out.ext HXC.out);replace hy0:=HXC.out.cellSome hy0;replace hy1:=HXC.out.cellSome hy1;clear hzk;cases hsk:decide (k=r ∨ T.at k c=(0,1))
     ·have HNS:=ae (of_decide_eq_false hsk);clear hsk;have HPM:=ae (li (t:=T) (by rw [HTR.out.1,HLR.out];exact hrb) HPN.out);obtain ⟨mg,mcap,hvm,hcm,hom,_,_,_,hmc1,hmc2⟩:=HT3.out.m.row hrb (n:=mm.length) (by rw [HPM.out.2]) (by rw [cW HMM.out];omega);rw [HPM.out.2] at hom;have HOM:=ae hom.rats;have HML:=ae (cW HMM.out);obtain ⟨mn,hmn⟩:∃ n,n=mm.length:=⟨_,rfl⟩;rw [<-hmn] at hcm HOM HML;have hmn2:mn<=200000:=by have:=HML.out;omega
      have c8:=HT3.out.c0;have hp0:-9223372036854775807<=p:=by have:=HVAL.out k c;rw [HPQ.out] at this;exact this.1
      have hp1:p<=9223372036854775807:=by have:=HVAL.out k c;rw [HPQ.out] at this;exact this.2
      have HSC:=ae (fun (wz:World) (z1:Option Addr) (z2 z3:Nat) (z4:Option Addr) (z5 z6:Nat) (h1:Rats wz z1 z2 z3 (T.row k)) (h2:Rats wz z4 z5 z6 mm) (h3:z2<=1048576)=>iR (k1:=-p) (k2:=q) h1 h2 h3);obtain ⟨sv,hsv⟩:∃ s,s=sclL (T.row k) (-p,q) mm:=⟨_,rfl⟩;have HSV:=ae (show pivN T r c mm (k+1)=sv.map fun x=>M.set k x by rw [hsv,kA HPN.out HNS.out,HPQ.out];rfl);simp only [<-hsv] at HSC;clear hsv hvm hom hmn;go_upto_region 17 with fail;have hk2:Ext wc wc.drew:=Ext.drew wc;have hka:=hk2;have HKEEP:=ae (fun (w':World) (h:Ext wc w')=>(⟨h.cellSome hy0,h.cellSome hy1,h.cellSome c8,h.cellSome hcm,h⟩:w'.cell? ⟨yb,yoff+c*2,none⟩=some (.int .i64 p)/\w'.cell? ⟨yb,yoff+c*2+1,none⟩=some (.int .i64 q)/\w'.cell? ⟨w2.heap.size,0,none⟩=some (.slice (some ⟨G,0,none⟩) nb ca)/\w'.cell? ⟨G,r,none⟩=some (.slice (some ⟨mg,0,none⟩) mn mcap)/\Ext wc w'))
      go_region_held3 (fun w'=>w'.cell? ⟨yb,yoff+c*2,none⟩=some (.int .i64 p)/\w'.cell? ⟨yb,yoff+c*2+1,none⟩=some (.int .i64 q)/\w'.cell? ⟨w2.heap.size,0,none⟩=some (.slice (some ⟨G,0,none⟩) nb ca)/\w'.cell? ⟨G,r,none⟩=some (.slice (some ⟨mg,0,none⟩) mn mcap)/\Ext wc w')
       (with_reducible exact HKEEP.out _ hk2)
       (first
         | (go_at_call 137
            (with_reducible refine (dM p q _ hp0 hp1).mono ?_)
            rintro e w3 ⟨rfl,hx_w3⟩;have hk2:Ext wc w3:=hk2.trans hx_w3
            have hs_w3:=hk2.size)
         | (go_at_call 141
            (with_reducible refine (HSC.out _ _ _ _ _ _ _ (HRK3.out.ext (by first|with_reducible exact hk2|with_reducible exact hka|with_reducible exact hk2.trans (Ext.alloc _ _))) (HOM.out.ext (by first|with_reducible exact hk2|with_reducible exact hka|with_reducible exact hk2.trans (Ext.alloc _ _))) (by omega)).mono ?_)
            rintro e w4 ⟨⟨v4,rfl,ho4⟩,hx_w4⟩;have hs4':=hk2.size;obtain ⟨a4,n4,c4,rfl,hn4⟩:=ho4.var;have hk2:Ext wc w4:=hk2.trans hx_w4
            have hs_w4:=hk2.size)
         | fail)
      clear HKEEP hka;have HX4:=ae (HX3.out.trans hk2);have HT4:=ae (HT3.out.ext hk2);have HO4:=ae (ho4.mono hs4');have HK4:=ae hk2;clear hk2 ho4 hy0 hy1 c8 hcm;cases sv with
      | none =>
        have HN:=ae (show aQ T (r:Int) (c:Int)=none by rw [HPG.out,is (k:=k+1) (by rw [HSV.out];rfl) hlt2];rfl);have xf:=(X1.out.trans HX4.out);have p0:=al (xf.blk HTB.out);have p1:=am (xf.blk HTB.out);have p2:=ap (xf.blk HTB.out);have XF:=ae xf;clear xf;go_wp2_with fail;refine (HCL.out _ XF.out).mono ?_;rintro e w8 ⟨⟨va8,vb8,vs8,rfl,ho8⟩,hx⟩;have X8:=ae (XF.out.trans hx);have HO8:=ae ho8;obtain ⟨a7,n7,c7,rfl,HN7⟩:=ho8.a.var;obtain ⟨a8,n8,c8,rfl,HN8⟩:=ho8.b.var;have r0:=al (X8.out.blk HGB.out);have r1:=am (X8.out.blk HGB.out);have r2:=ap (X8.out.blk HGB.out);have rf:=bK (X8.out.blk HGB.out);have hsz:=XF.out.size;have hww:=HSW.out;clear hx ho8 p0 p1 p2;go_wp2_with fail;refine bodyPost_ret (v:=.tuple #[.agg #[.slice a7 n7 c7,.slice a8 n8 c8,.int .i64 (m:Int)],.bool false]) (by simp [results,Tryz.results55,go_sem,r0,r1,r2,rf]) rfl ⟨?_,(HX0.out.trans X8.out).set3 (Nat.le_succ _) _ _ _⟩;refine ⟨.slice a7 n7 c7,.slice a8 n8 c8,vs8,?_,?_⟩
        ·unfold bE;rw [HN.out,Option.getD_none,HCM.out];rfl
        ·unfold bE;rw [HN.out,Option.getD_none];exact (HO8.out.keepAll fun k hk=>aV _ _ _ _ _ _ (by omega)).mono (by omega)
      | some nr =>
        have c8:=HT4.out.c0;obtain ⟨G',hG',hbG,hGc⟩:=HT4.out.m.own.cell hlt2;simp only [Option.some.injEq,Addr.mk.injEq,and_true] at hG';subst hG';have hgk:w4.cell? ⟨G,k,none⟩=some (vs2[k]?.getD undef):=by
         rw [hGc k hlt2];have:k<vs2.length:=by rw [HT4.out.m.vlen];exact hlt2
         simp [this]
        obtain ⟨G',hG',_,_,hfr⟩:=HT4.out.m.outer (by omega);simp only [Option.some.injEq,Addr.mk.injEq,and_true] at hG';subst hG';have HT5:=ae (HT3.out.put HK4.out (by have:=HX3.out.size;omega) HO4.out hlt2);have HX5:=ae (HX4.out.setCell (p:=⟨G,k,none⟩) hbG (.slice a4 n4 c4));have HP5:=ae (show pivN T r c mm (k+1)=some (M.set k nr) by rw [HSV.out];rfl);clear hGc;go_wp2_with fail
        go_roundg (g2-1)
        case measure=>have:=HK2.out;omega
        case rel=>exact ⟨k+1,_,_,ae (by have:=HK2.out;omega),by go_num,HP5,HT5,HX5⟩
     ·have HS1:=ae (it HPN.out (of_decide_eq_true hsk));clear hsk;go_wp2_with fail
      go_roundg (g2-1)
      case measure=>have:=HK2.out;omega
      case rel=>exact ⟨k+1,vs2,M,ae (by have:=HK2.out;omega),by go_num,HS1,HT3,HX3⟩
    ·have hkn:nb=k:=by have:=HK2.out;omega
     subst hkn;have HN:=ae (show aQ T (r:Int) (c:Int)=some ⟨M,basis.set r (c:Int),(m:Int)⟩ by rw [HPG.out,HPN.out];rfl);have c81:=am HT2.out.box;obtain ⟨B',off',hB',hbc⟩:=HT2.out.b.ints.at hrb;simp only [Option.some.injEq,Addr.mk.injEq,and_true] at hB';obtain ⟨rfl,rfl⟩:=hB';obtain ⟨B',hB',hbB,hbf,_⟩:=HT2.out.b.block hrb;simp only [Option.some.injEq,Addr.mk.injEq,and_true] at hB';subst hB';rw [Nat.zero_add] at hbc;have HT9:=ae (HT2.out.putB r (c:Int));have HX9:=ae (HX2.out.setCell (p:=⟨B,r,none⟩) hbB (.int .i64 (c:Int)));go_upto_region 23 with fail;obtain ⟨W9,hW9⟩:∃ x,x=wr2.setCell ⟨B,r,none⟩ (.int .i64 (c:Int)):=⟨_,rfl⟩;rw [<-hW9] at HT9 HX9 ⊢;clear hW9 c81 hbc hbf;have r0:=al ((X1.out.trans HX9.out).blk HGB.out);have r1:=am ((X1.out.trans HX9.out).blk HGB.out);have r2:=ap ((X1.out.trans HX9.out).blk HGB.out);have rf:=bK ((X1.out.trans HX9.out).blk HGB.out);have t0:=al HT9.out.box;have t1:=am HT9.out.box;have t2:=ap HT9.out.box;go_wp2_with fail;refine bodyPost_ret (v:=.tuple #[.agg #[.slice (some ⟨G,0,none⟩) nb ca,.slice (some ⟨B,0,none⟩) nb cb,.int .i64 (m:Int)],.bool true]) (by simp [results,Tryz.results55,go_sem,r0,r1,r2,rf]) rfl ⟨?_,((HX0.out.trans X1.out).trans HX9.out).set3 (Nat.le_succ _) _ _ _⟩;refine ⟨.slice (some ⟨G,0,none⟩) nb ca,.slice (some ⟨B,0,none⟩) nb cb,vs2,?_,?_⟩
     ·unfold bE;rw [HN.out,Option.getD_some];rfl
     ·unfold bE;rw [HN.out,Option.getD_some];exact (HT9.out.own.keepAll fun k hk=>aV _ _ _ _ _ _ (by omega)).mono (by omega)
theorem gK (h:TbC w ra rn rc ba bn bc t) (hrn:rn<=100000) (hbn:bn<=100000) (hrl:∀ i,i<rn->(t.row i).length<=1048576) (hval:∀ i j,-9223372036854775807<=(t.at i j).1/\(t.at i j).1<=9223372036854775807) (row col:Int) :
 Calls Tryz.prog 55 #[tbW ra rn rc ba bn bc t.cols,.int .i64 row,.int .i64 col] w fun e w'=>PivR w' w.heap.size e (bE t row col) (aQ t row col).isSome/\Ext w w':=by
 cases hp:cD t row col
 ·have e:=lm hp;unfold bE;rw [e];exact jM h hrn hbn hrl row col hp
 ·exact jN h hrn hbn hval row col hp
end
end Go.Proofs.YthjjfkeacobikaaGreat
namespace Go.Proofs.YthjjfkeacobikaaGreat
set_option maxRecDepth 100000
open Go.RowKit
structure Mod (S:Nat) (w w':World):Prop where
 os:w'.os=w.os
 tape:w'.tape=w.tape
 output:w'.output=w.output
 size:w.heap.size<=w'.heap.size
 block:∀ k,k<w.heap.size->k ≠ S->w'.heap[k]?=w.heap[k]?
theorem Mod.refl (S:Nat) (w:World):Mod S w w:=⟨rfl,rfl,rfl,Nat.le_refl _,fun _ _ _=>rfl⟩
theorem Mod.of {S:Nat} {w w':World} (h:Ext w w'):Mod S w w':=⟨h.os,h.tape,h.output,h.size,fun k hk _=>h.block k hk⟩
theorem Mod.trans {S:Nat} {a b c:World} (h:Mod S a b) (k:Mod S b c):Mod S a c :=
 ⟨k.os.trans h.os,k.tape.trans h.tape,k.output.trans h.output,Nat.le_trans h.size k.size,fun i hi hn=>(k.block i (Nat.lt_of_lt_of_le hi h.size) hn).trans (h.block i hi hn)⟩
theorem Mod.set (S:Nat) (w:World) (k:Nat) (v:Value):Mod S w (w.setCell ⟨S,k,none⟩ v):=by
 have h:=(Below.refl S w).setCell (p:=⟨S,k,none⟩) (Nat.le_refl S) v;exact ⟨h.os,h.tape,h.output,h.size,fun i _ hn=>heap_setCell_other _ _ _ _ hn⟩
theorem Mod.ext {S:Nat} {w0 w w':World} (h:Mod S w w') (hx:Ext w0 w) (hs:w0.heap.size<=S):Ext w0 w' :=
 ⟨h.os.trans hx.os,h.tape.trans hx.tape,h.output.trans hx.output,Nat.le_trans hx.size h.size,fun k hk=>(h.block k (Nat.lt_of_lt_of_le hk hx.size) (by omega)).trans (hx.block k hk)⟩
structure cY (w:World) (S:Nat) (ra:Option Addr) (rn rc:Nat) (ba:Option Addr) (bn bc:Nat) (vs:List Value) (t:Tb) (n:Nat) (f:Bool):Prop where
 box:w.heap[S]?=some (.cells #[.slice ra rn rc,.slice ba bn bc,.int .i64 t.cols,.int .i64 (n:Int),.bool f] 215 (0,0))
 tb:OwnT w 0 (.slice ra rn rc) (.slice ba bn bc) vs t
theorem OwnT.setS {w:World} {base S k:Nat} {va vb:Value} {vs:List Value} {t:Tb} {c:Array Value} {z:Nat × Nat} {v:Value} (h:OwnT w base va vb vs t) (hb:w.heap[S]?=some (.cells c 215 z)):OwnT (w.setCell ⟨S,k,none⟩ v) base va vb vs t :=
 ⟨dz h.a hb (by decide),⟨h.rows.len,fun i hi=>dz (h.rows.row i hi) hb (by decide),h.rows.apart⟩,dz h.b hb (by decide)⟩
section
variable {w:World} {S:Nat} {ra:Option Addr} {rn rc:Nat} {ba:Option Addr} {bn bc:Nat} {vs:List Value} {t:Tb} {n:Nat} {f:Bool}
theorem cY.ext {w':World} (h:cY w S ra rn rc ba bn bc vs t n f) (hx:Ext w w'):cY w' S ra rn rc ba bn bc vs t n f:=⟨(hx.block _ (lt_of_block h.box)).trans h.box,h.tb.ext hx⟩
theorem cY.cells (h:cY w S ra rn rc ba bn bc vs t n f):w.cell? ⟨S,0,none⟩=some (.slice ra rn rc)/\w.cell? ⟨S,1,none⟩=some (.slice ba bn bc)/\w.cell? ⟨S,2,none⟩=some (.int .i64 t.cols)/\w.cell? ⟨S,3,none⟩=some (.int .i64 (n:Int))/\w.cell? ⟨S,4,none⟩=some (.bool f)/\∀ k,w.frozen? ⟨S,k,none⟩=false:=by
 have hb:=h.box;refine ⟨?_,?_,?_,?_,?_,fun k=>frozen_of_row w S k _ _ hb⟩ <;> rw [cell_of_row w S _ _ _ _ hb] <;> rfl
theorem cY.fail (h:cY w S ra rn rc ba bn bc vs t n f):cY (w.setCell ⟨S,4,none⟩ (.bool true)) S ra rn rc ba bn bc vs t n true :=
 ⟨heap_setCell_same w S 4 _ _ (.bool true) h.box,h.tb.setS h.box⟩
theorem cY.step (h:cY w S ra rn rc ba bn bc vs t n f) {ra':Option Addr} {rn' rc':Nat} {ba':Option Addr} {bn' bc':Nat} {vs':List Value} {t':Tb} (ho:OwnT w 0 (.slice ra' rn' rc') (.slice ba' bn' bc') vs' t') :
 cY ((((w.setCell ⟨S,0,none⟩ (.slice ra' rn' rc')).setCell ⟨S,1,none⟩ (.slice ba' bn' bc')).setCell ⟨S,2,none⟩ (.int .i64 t'.cols)).setCell ⟨S,3,none⟩ (.int .i64 ((n:Int)+1))) S ra' rn' rc' ba' bn' bc' vs' t' (n+1) f:=by
 have b1:=heap_setCell_same w S 0 _ _ (.slice ra' rn' rc') h.box;have b2:=heap_setCell_same _ S 1 _ _ (.slice ba' bn' bc') b1;have b3:=heap_setCell_same _ S 2 _ _ (.int .i64 t'.cols) b2;have b4:=heap_setCell_same _ S 3 _ _ (.int .i64 ((n:Int)+1)) b3;refine ⟨?_,(((ho.setS h.box).setS b1).setS b2).setS b3⟩;rw [b4];have:((n+1:Nat):Int)=(n:Int)+1:=by simp
 rw [this];rfl
end
theorem OwnR.mod {w w':World} {S b:Nat} {v:Value} {l:List (Int × Int)} (h:OwnR w b v l) (hm:Mod S w w') {c:Array Value} {z:Nat × Nat} (hb:w.heap[S]?=some (.cells c 215 z)):OwnR w' b v l :=
 h.keep fun k hk=>hm.block k (h.lt k hk).2 fun e=>(an h hb (by decide)) (by rw [hk,e])
def Left (S:Nat) (w w':World) (o:Option (Tb × Nat)):Prop :=
 Mod S w w'/\∃ ra rn rc ba bn bc vs,match o with
  | some (t,n)=>cY w' S ra rn rc ba bn bc vs t n false
  | none=>∃ t n,cY w' S ra rn rc ba bn bc vs t n true
def pivS (t:Tb) (n:Nat) (row col:Int):Option (Tb × Nat):=if n=1000 then none else (aQ t row col).map fun t'=>(t',n+1)
theorem TInv.bounds {n m:Nat} {T0:Nat->Nat->Rat} {t:Tb} (h:TInv n m T0 t):(∀ i,i<m->(t.row i).length=n+m+1)/\∀ i j,-9223372036854775807<=(t.at i j).1/\(t.at i j).1<=9223372036854775807:=by
 refine ⟨fun i hi=>(h.row i hi).1,fun i j=>?_⟩;by_cases hi:i<m
 ·by_cases hj:j<n+m+1
  ·have:=bh ((h.row i hi).2 j hj);unfold Tb.at
   omega
  ·unfold Tb.at
   rw [List.getElem?_eq_none (by rw [(h.row i hi).1];omega)];simp
 ·unfold Tb.at Tb.row;rw [List.getElem?_eq_none (l:=t.rows) (by rw [h.len];omega)];simp
section
variable {w:World} {S:Nat} {ra:Option Addr} {rn rc:Nat} {ba:Option Addr} {bn bc:Nat} {vs:List Value} {t:Tb} {n:Nat}
set_option maxHeartbeats 8000000 in
theorem nM (h:cY w S ra rn rc ba bn bc vs t n false) {N m:Nat} {T0:Nat->Nat->Rat} (hT:TInv N m T0 t) (hN:N<=1000) (hm:m<=1000) (hn:n<=1000) (row col:Int) :
 Calls Tryz.prog 251 #[.pointer (some ⟨S,0,none⟩),.int .i64 row,.int .i64 col] w fun e w'=>e=.returned (.tuple #[])/\Left S w w' (pivS t n row col):=by
 have hlt:=lt_of_block h.box;obtain ⟨c0,c1,c2,c3,c4,cf⟩:=h.cells;have H:=ae h;by_cases hn0:n=1000
 ·subst hn0;have HP:=ae (show pivS t 1000 row col=none by unfold pivS;rw [if_pos rfl]);clear h;go_enter Tryz.func251,Tryz.ntmps251
  go_wp2_with fail;refine bodyPost_ret (results_none rfl _ _ _) rfl ⟨rfl,Mod.set _ _ _ _,?_⟩;rw [HP.out];exact ⟨_,_,_,_,_,_,_,_,_,H.out.fail⟩
 ·have hnn:((n:Int) == 1000)=false:=by simp;omega
  have hn1:n<1000:=by omega
  have HB:=ae hT.bounds;have HTB:=ae h.tb.tbc;have hrn:rn=m:=by rw [<-h.tb.tbc.rows.hlen,hT.len]
  have hbn:bn=m:=by rw [<-h.tb.tbc.basis.hlen,hT.blen]
  have HPV:=ae (gK h.tb.tbc (by omega) (by omega) (fun i hi=>by rw [hT.bounds.1 i (by omega)];omega) hT.bounds.2 row col);have HP:=ae (show pivS t n row col=(aQ t row col).map fun t'=>(t',n+1) by unfold pivS;rw [if_neg hn0]);clear h hT hn0 hrn hbn;unfold PivR bE at HPV;cases hp:aQ t row col with
  | none =>
    rw [hp] at HPV HP;go_enter Tryz.func251,Tryz.ntmps251
    go_wp2_with fail;refine HPV.out.mono ?_;simp only [Option.getD_none,Option.isSome_none];rintro e w1 ⟨⟨va,vb,vs1,rfl,ho⟩,hx⟩;obtain ⟨a7,n7,c7,rfl,HN7⟩:=ho.a.var;obtain ⟨a8,n8,c8,rfl,HN8⟩:=ho.b.var;obtain ⟨E1,hE1⟩:∃ E1,E1=w1.alloc (.cells #[.slice a7 n7 c7,.slice a8 n8 c8,.int .i64 t.cols] 83):=⟨_,rfl⟩;have X1:=ae (show Ext w E1 by rw [hE1];exact hx.trans (Ext.alloc _ _));have HO:=ae (show OwnT E1 0 (.slice a7 n7 c7) (.slice a8 n8 c8) vs1 t by rw [hE1];exact (ho.ext (Ext.alloc _ _)).mono (Nat.zero_le _));have HBX:=ae (show E1.heap[w1.heap.size]?=some (.cells #[.slice a7 n7 c7,.slice a8 n8 c8,.int .i64 t.cols] 83 (0,0)) by rw [hE1];exact aj _ _ _ rfl);have HS:=ae (H.out.ext X1.out);go_upto_region 3 with fail;rw [<-hE1];clear hE1 ho hx c0 c1 c2 c3 c4 cf;obtain ⟨c0,c1,c2,c3,c4,cf⟩:=HS.out.cells;have b0:=al HBX.out;have b1:=am HBX.out;have b2:=ap HBX.out;have hlt2:=lt_of_block HBX.out;have hne:w1.heap.size ≠ S:=fun e=>gG HBX.out HS.out.box (by decide) e
    go_wp2_with fail;refine bodyPost_ret (results_none rfl _ _ _) rfl ⟨rfl,(Mod.of X1.out).trans (Mod.set _ _ _ _),?_⟩;rw [HP.out];exact ⟨_,_,_,_,_,_,_,_,_,HS.out.fail⟩
  | some t' =>
    rw [hp] at HPV HP;go_enter Tryz.func251,Tryz.ntmps251
    go_wp2_with fail;refine HPV.out.mono ?_;simp only [Option.getD_some,Option.isSome_some];rintro e w1 ⟨⟨va,vb,vs1,rfl,ho⟩,hx⟩;obtain ⟨a7,n7,c7,rfl,HN7⟩:=ho.a.var;obtain ⟨a8,n8,c8,rfl,HN8⟩:=ho.b.var;obtain ⟨E1,hE1⟩:∃ E1,E1=w1.alloc (.cells #[.slice a7 n7 c7,.slice a8 n8 c8,.int .i64 t'.cols] 83):=⟨_,rfl⟩;have X1:=ae (show Ext w E1 by rw [hE1];exact hx.trans (Ext.alloc _ _));have HO:=ae (show OwnT E1 0 (.slice a7 n7 c7) (.slice a8 n8 c8) vs1 t' by rw [hE1];exact (ho.ext (Ext.alloc _ _)).mono (Nat.zero_le _));have HBX:=ae (show E1.heap[w1.heap.size]?=some (.cells #[.slice a7 n7 c7,.slice a8 n8 c8,.int .i64 t'.cols] 83 (0,0)) by rw [hE1];exact aj _ _ _ rfl);have HS:=ae (H.out.ext X1.out);go_upto_region 3 with fail;rw [<-hE1];clear hE1 ho hx c0 c1 c2 c3 c4 cf;obtain ⟨c0,c1,c2,c3,c4,cf⟩:=HS.out.cells;have b0:=al HBX.out;have b1:=am HBX.out;have b2:=ap HBX.out;have hlt2:=lt_of_block HBX.out;have hne:w1.heap.size ≠ S:=fun e=>gG HBX.out HS.out.box (by decide) e
    go_wp2_with fail;refine bodyPost_end (results_none rfl _ _ _) rfl ⟨rfl,(Mod.of X1.out).trans ((((Mod.set _ _ _ _).trans (Mod.set _ _ _ _)).trans (Mod.set _ _ _ _)).trans (Mod.set _ _ _ _)),?_⟩;rw [HP.out];exact ⟨_,_,_,_,_,_,_,HS.out.step HO.out⟩
end
end Go.Proofs.YthjjfkeacobikaaGreat
