import Derived.Test.YtdadoignenffgaaGreatDoorSvAllG31
import Derived.Test.YtdadoignenffgaaGreatDoorSvAllG30
import Derived.Test.YtdadoignenffgaaGreatDoorSvAllG14
set_option linter.unusedVariables false
set_option linter.unusedSimpArgs false
namespace Go.Proofs.YtdadoignenffgaaGreatDoor
variable{k n m i N B z:Nat}{w W Wc Wd:World}{a:j6}{l:j2}{V r:j7}{A:j5}{va vc:Value}{us rs:List Value}{C:j4}
set_option maxHeartbeats 16000000
set_option maxRecDepth 100000
open Go.RowKit
def fo(L:j2):Nat:=L.foldl (fun a f=>a ||| 2^f.1.toNat) 0
theorem tf{L:j2}(h:k<L.length):fo (L.take (k+1))=fo (L.take k) ||| 2^(L[k]?.getD (0,0,0)).1.toNat:=by
 unfold fo;rw[gw h,List.foldl_append];rfl
theorem uK(c:Nat):∀(L:j2),(∀f∈L,0<=f.1)->(fo L).testBit c=xT L (c:Int):=by
 have key:∀(L:j2) (s:Nat),(∀f∈L,0<=f.1)->(L.foldl (fun a f=>a ||| 2^f.1.toNat) s).testBit c=(s.testBit c||xT L (c:Int)):=by
  intro L
  induction L with
  | nil=>intro s _;simp[xT]
  | cons f L ih =>
    intro s h;rw[List.foldl_cons,ih _ (fun g hg=>h g (List.mem_cons_of_mem _ hg)),Nat.testBit_or,Nat.testBit_two_pow];have h0:=h f List.mem_cons_self;have:decide (f.1.toNat=c)=(f.1 == (c:Int)):=by rw[Bool.eq_iff_iff];simp;omega
    rw[this];simp only[xT,List.any_cons,Bool.or_assoc]
 intro L h;have:=key L 0 h
 simpa[fo]using this
theorem I1:∀(L:j2),(∀f∈L,f.1<=30)->fo L<2^31:=by
 have key:∀(L:j2) (s:Nat),s<2^31->(∀f∈L,f.1<=30)->L.foldl (fun a f=>a ||| 2^f.1.toNat) s<2^31:=by
  intro L
  induction L with
  | nil=>intro s hs _;exact hs
  | cons f L ih =>
    intro s hs h;have h0:=h f List.mem_cons_self;exact ih _ (Nat.or_lt_two_pow hs (Nat.pow_lt_pow_right e7 e7)) fun g hg=>h g (List.mem_cons_of_mem _ hg)
 exact fun L h=>key L 0 (by decide) h
theorem NB(s k:Nat):bit (s:Int) k=s.testBit k:=by
 unfold bit;rw[Nat.testBit_eq_decide_div_mod_eq,Bool.eq_iff_iff];have:(s:Int)/2^k=((s/2^k:Nat):Int):=by simp
 rw[this];simp only[decide_eq_true_eq];omega
theorem Pt{s:Nat}(hs:s<2^31)(hk:k<=30):bits .or .i64 (s:Int) (2^k)=((s ||| 2^k:Nat):Int):=by
 have h2:2^k<2^31:=Nat.pow_lt_pow_right e7 e7;have:=Pu s (2^k) e7 e7;rw[<-this]
 congr 1
theorem Jf(k:Nat)(h:k<=30):(1:Int)<=2^k/\(2:Int)^k<=1073741824:=by
 have h1:2^k<=2^30:=Nat.pow_le_pow_right e7 h;have h2:0<2^k:=Nat.pow_pos e7;have h3:((2^k:Nat):Int)=(2:Int)^k:=by simp
 rw[<-h3];omega
def yr:Enc (Int×Int×Int):=⟨fun x=>[.int .i64 x.1,.int .i64 x.2.1,.int .i64 x.2.2],3,fun _=>rfl,by omega,fun x u h=>by simp only[List.mem_cons,List.not_mem_nil,or_false]at h;rcases h with rfl|rfl|rfl<;>rfl⟩
theorem xV.A2{cap:Nat}(h:xV w a n cap l):yM yr w a n cap l :=
 ⟨h.hlen,h.l8,h.o0,fun k hk=>by
  obtain⟨b,off,e,hc⟩:=h.cell k hk;refine⟨b,off,e,fun k x j v hx hv=>?_⟩;have Ab:=(List.getElem?_eq_some_iff.1 hx).1;have h3:=hc k (by rw[<-h.hlen];exact Ab);rw[hx]at h3;simp only[Option.getD_some]at h3
  match j with
  | 0 =>
     obtain rfl:Value.int .i64 x.1=v:=by simpa[yr]using hv
     exact h3.1
  | 1 =>
     obtain rfl:Value.int .i64 x.2.1=v:=by simpa[yr]using hv
     exact h3.2.1
  | 2 =>
     obtain rfl:Value.int .i64 x.2.2=v:=by simpa[yr]using hv
     exact h3.2.2
  | j+3=>simp[yr]at hv⟩
theorem yM.Fh{cap:Nat}(h:yM yr w a n cap l):xV w a n cap l :=
 ⟨h.hlen,h.l8,h.o0,fun k hk=>by
  obtain⟨b,off,e,hc⟩:=h.cell k hk;refine⟨b,off,e,fun k hk=>?_⟩;have Ab:k<l.length:=by rw[h.hlen];exact hk
  have hx:=List.getElem?_eq_getElem Ab;rw[hx]
  exact⟨hc k _ 0 _ hx rfl,hc k _ 1 _ hx rfl,hc k _ 2 _ hx rfl⟩⟩
theorem Tryz.B7:(Tryz.prog.info? 83).map (fun i=>(i.zero,i.size,i.bytes))=some (some (.agg #[.int .i64 0,.int .i64 0,.int .i64 0]),yr.c,24):=by kernel_rfl
theorem rT{cap:Nat}(h:xV w a n cap l)(hb:n<=1099511627776):
 Calls Tryz.prog 137 #[.slice a n cap] w fun e w'=>∃v,e=.returned v/\uT yr 83 w' w.heap.size v l/\Ext w w':=by
 have heq:∀w':World,(binOp .eql 42 (.slice a n cap) (.slice none 0 0)).run Tryz.prog w'=.ok (.bool a.isNone) w':=fun w'=>Lib.run_eql_slice_nil w' _ _ a n cap 0 0 Tryz.underlying42
 have HL:=ae h.hlen;cases a with
 | none =>
   have hl:l=[]:=by
    have:¬0<n:=fun hn=>by obtain⟨b,off,e,_⟩:=h.cell 0 hn;cases e
    exact List.eq_nil_of_length_eq_zero (j1 HL.o)
   simp only[Option.isNone_none]at heq;go_enter Tryz.func137,Tryz.ntmps137
   go_wp2
   go_ret;exact⟨_,rfl,by rw[hl];exact uT.nil _ _ w _,Ext.refl _⟩
 | some ad =>
   simp only[Option.isNone_some]at heq;have HI:=ae ((h.ext (Ext.alloc w (.cells #[] 83))).A2);have HO:=ae (uT.wJ yr 83 w w.heap.size _ rfl (Nat.le_refl _));clear h;go_enter Tryz.func137,Tryz.ntmps137
   go_wp2_with (first|(at_builtin;refine en yr Tryz.B7 rfl Tryz.underlying42 (by decide) rfl _ _ rfl w.heap.size _ _ rfl HO.o _ n _ l rfl HI.o (by simpa using hb) e8 ?_;intro v' w1 ho hg l7));go_ret;exact⟨_,rfl,ho,(Ext.alloc _ _).grown hg (fun k hk=>Nat.le_of_eq (Option.some.inj (show some w.heap.size=some k from hk)))⟩
def zJ(n:Nat)(L:j2):j2:=L++[((n:Int)-1,0,1)]
theorem uP{v:Int}(h:-500<=v/\v<=500):vD (0,1) (v,1)=((-v,1),true):=by
 have h1:o9 (0,1)=true:=by decide
 have h2:o9 (v,1)=true:=jS e7 e7 (by simp only;omega) (by simp only;omega) (by simp only;rw[gO];simp);unfold vD;rw[h1,h2];simp only[Bool.and_self,if_true];rw[show(0:Int)*1-v*1=-v by omega,show(1:Int)*1=1 by rfl];have h3:o9 (-v,1)=true:=jS e7 e7 (by simp only;omega) (by simp only;omega) (by simp only;rw[gO];simp);have hg:gI (-v) 1=1:=by rw[gO];simp
 unfold az;rw[if_neg (by simp[r'];omega),if_neg e7,hg];simp only[Int.tdiv_one];unfold xI;rw[if_pos h3]
theorem qB(hn:V.length=n)(h1:1<=n)(E:∀y∈V,-500<=y/\y<=500):eZ V ((n:Int)-1,0,1)=(-(V[n-1]?.getD 0),1):=by
 have hb:=ek E (n-1);unfold eZ;simp only;rw[show((n:Int)-1).toNat=n-1 by omega,uP hb]
theorem iI(hn:V.length=n)(h1:1<=n)(E:∀y∈V,-500<=y/\y<=500)(L:j2):bd V (aN L (n-2))++aK V (zJ n L)=cK V L:=by
 have e1:aK V (zJ n L)=aK V L++yp ((n:Int)-1) (eZ V ((n:Int)-1,0,1)):=by
  unfold zJ aK;rw[List.flatMap_append];simp
 rw[e1,qB hn h1 E];unfold cK;rw[hn,List.append_assoc]
def F9(V:j7)(f:Int×Int×Int):Bool:=(vD f.2 (V[f.1.toNat]?.getD 0,1)).2
theorem IQ{a b:j8}(h:(vD a b).2=true):o9 (vD a b).1=true:=by
 unfold vD at h⊢
 split at h
 ·next h1=>rw[if_pos h1];exact ip h
 ·simp at h
theorem Mj{a b:j8}(h:(vD a b).2=false):(vD a b).1=(0,0):=by
 unfold vD at h⊢
 split at h
 ·next h1=>rw[if_pos h1];exact lU h
 ·next h1=>rw[if_neg h1]
theorem IM{v:Int}(h:-1000000000<=v/\v<=1000000000):o9 (v,1)=true:=jS e8 e8 (by simp only;omega) (by simp only;omega) (by simp only;rw[gO];simp)
theorem toQ(hn:V.length=n)(h1:1<=n)(E:∀y∈V,-500<=y/\y<=500){L:j2}:xC (BF V L)=(zJ n L).all (F9 V):=by
 have h0:BF V L=(bd V (aN L (n-2))).map (fun c=>c.2.2.2)++(zJ n L).flatMap fun f=>[eZ V f,(-(eZ V f).1,(eZ V f).2)]:=by
  unfold BF;rw[<-iI hn h1 E,List.map_append]
  congr 1
  unfold aK;rw[List.map_flatMap]
  rfl
 have h2:((bd V (aN L (n-2))).map fun c=>c.2.2.2).all o9=true:=by
  rw[List.all_eq_true];intro x hx;obtain⟨c,hc,rfl⟩:=List.mem_map.1 hx;obtain⟨s,_,rfl⟩:=List.mem_map.1 hc;have:=ek E s.toNat;exact IM e7
 unfold xC;rw[h0,List.all_append,h2,Bool.true_and,List.all_flatMap]
 congr 1
 funext f
 unfold F9;cases hf:(vD f.2 (V[f.1.toNat]?.getD 0,1)).2
 ·have:=Mj hf;unfold eZ;rw[this]
  decide
 ·have:=IQ hf;have h3:=ib (vD f.2 (V[f.1.toNat]?.getD 0,1)).1.1 (vD f.2 (V[f.1.toNat]?.getD 0,1)).1.2;unfold eZ;simp only[List.all_cons,List.all_nil,Bool.and_true];rw[h3,this];rfl
def cw(m j:Nat)(r:j7):j7:=r.mapIdx fun i x=>if m<i/\(i-m) % 2=1/\i<j then -x else x
theorem ue(m j:Nat)(r:j7):(cw m j r).length=r.length:=by simp[cw]
theorem Jo{j:Nat}(h:i<r.length):(cw m j r)[i]?.getD 0=if m<i/\(i-m) % 2=1/\i<j then -(r[i]?.getD 0) else r[i]?.getD 0:=by
 simp[cw,h]
theorem qP(m:Nat)(r:j7):cw m (m+1) r=r:=by
 apply List.ext_getElem (by simp[cw])
 intro i h1 h2;simp only[cw,List.getElem_mapIdx];rw[if_neg e7]
theorem sN{t:Nat}(h:m+1+2*t<r.length):(cw m (m+1+2*t) r).set (m+1+2*t) (-(r[m+1+2*t]?.getD 0))=cw m (m+1+2*(t+1)) r:=by
 apply List.ext_getElem (by simp[cw])
 intro i h1 h2;rw[List.getElem_set];simp only[cw,List.getElem_mapIdx];simp only[cw,List.length_mapIdx]at h2
 split
 ·next e=>subst e;rw[if_pos e7,List.getElem?_eq_getElem h];rfl
 ·next e =>
  by_cases hc:m<i/\(i-m) % 2=1/\i<m+1+2*t
  ·rw[if_pos hc,if_pos e7]
  ·rw[if_neg hc,if_neg e7]
theorem ud{j:Nat}(h:r.length<=j):cw m j r=cw m r.length r:=by
 apply List.ext_getElem (by simp[cw])
 intro i h1 h2;simp only[cw,List.getElem_mapIdx];simp only[cw,List.length_mapIdx]at h2;by_cases hc:m<i/\(i-m) % 2=1
 ·rw[if_pos ⟨hc.1,hc.2,by omega⟩,if_pos ⟨hc.1,hc.2,by omega⟩]
 ·rw[if_neg e7,if_neg e7]
theorem lC(V:j7):∀(E:j2) (i:Nat) (c:Ii),(aK V E)[i]?=some c->c.2.1=if i % 2=1 then -1 else 1
 | [],i,c,h=>by simp[aK]at h
 | f::E,0,c,h=>by
   simp only[aK,List.flatMap_cons,yp,List.cons_append,List.getElem?_cons_zero,Option.some.injEq]at h;subst h;rfl
 | f::E,1,c,h=>by
   simp only[aK,List.flatMap_cons,yp,List.cons_append,List.getElem?_cons_succ,List.getElem?_cons_zero,Option.some.injEq]at h;subst h;rfl
 | f::E,i+2,c,h=>by
   simp only[aK,List.flatMap_cons,yp,List.cons_append,List.nil_append,List.getElem?_cons_succ]at h;have:=lC V E i c h;rw[this];have:(i+2) % 2=i % 2:=by omega
   rw[this]
theorem sp(V:j7)(E:j2):∀c∈aK V E,c.2.2.1=false:=by
 intro c hc;obtain⟨f,_,h2⟩:=List.mem_flatMap.1 hc;simp only[yp,List.mem_cons,List.not_mem_nil,or_false]at h2
 rcases h2 with rfl|rfl<;>rfl
theorem Jn(V:j7)(G:j7)(E:j2)(q k:Nat)(hk:k<q):
 cw G.length ((bd V G++aK V E).map (·.1)).length (xd ((bd V G++aK V E).map (·.1)) k)=yY (bd V G++aK V E) q k:=by
 apply List.ext_getElem (by simp[cw,xd,yY])
 intro i h1 h2;simp only[yY,List.length_map]at h2;simp only[cw,xd,yY,List.getElem_mapIdx,List.getElem_map,List.length_map];unfold Jk;rw[if_pos hk];by_cases hi:i<G.length
 ·rw[if_neg e7];have:(bd V G++aK V E)[i].2.1=1:=by
   rw[List.getElem_append_left (by rw[cZ];exact hi)];simp[bd]
  rw[this];omega
 ·have hl:=cZ V G;have hb:i-(bd V G).length<(aK V E).length:=by rw[List.length_append]at h2;omega
  have e:(bd V G++aK V E)[i]=(aK V E)[i-(bd V G).length]:=List.getElem_append_right e7;have hs:=lC V E (i-(bd V G).length) _ (List.getElem?_eq_getElem hb);rw[<-e,hl]at hs;rw[hs];by_cases hc:(i-G.length) % 2=1
  ·rw[if_pos ⟨by omega,hc,h2⟩,if_pos hc];omega
  ·rw[if_neg e7,if_neg hc];omega
theorem pg(V:j7)(G:j7)(E:j2)(q:Nat):List.replicate G.length 1++List.replicate (2*E.length) 0=yY (bd V G++aK V E) q q:=by
 unfold yY;rw[List.map_append]
 congr 1
 ·refine(List.eq_replicate_iff.2 ⟨by rw[List.length_map,cZ],fun x hx=>?_⟩).symm;obtain⟨c,hc,rfl⟩:=List.mem_map.1 hx;obtain⟨s,_,rfl⟩:=List.mem_map.1 hc;simp[Jk,vX]
 ·refine(List.eq_replicate_iff.2 ⟨by rw[List.length_map,eo],fun x hx=>?_⟩).symm;obtain⟨c,hc,rfl⟩:=List.mem_map.1 hx;have:=sp V E c hc;simp[Jk,this,vX]
theorem um(q:Nat):List.replicate q 0++[(1:Int)]=Gs q:=by
 unfold Gs;rw[List.range_succ,List.map_append]
 congr 1
 ·refine(List.eq_replicate_iff.2 ⟨by simp,fun x hx=>?_⟩).symm;obtain⟨k,hk,rfl⟩:=List.mem_map.1 hx;have:k<q:=List.mem_range.1 hk;rw[decide_eq_false e7];rfl
 ·simp[vX]
def ye(m N i:Nat)(A:j5):j5:=A.mapIdx fun r row=>if r<i then cw m N row else row
theorem Jq(m N i:Nat)(A:j5):(ye m N i A).length=A.length:=by simp[ye]
theorem uc(m N:Nat)(A:j5):ye m N 0 A=A:=by
 apply List.ext_getElem (by simp[ye])
 intro r h1 h2;simp[ye]
theorem rx(h:i<A.length):(ye m N i A)[i]?.getD []=A[i]?.getD []:=by
 simp[ye,h]
theorem ua(h:i<A.length):(ye m N i A).set i (cw m N (A[i]?.getD []))=ye m N (i+1) A:=by
 apply List.ext_getElem (by simp[ye])
 intro r h1 h2;rw[List.getElem_set];simp only[ye,List.getElem_mapIdx]
 split
 ·next e=>subst e;rw[if_pos e7,List.getElem?_eq_getElem h];rfl
 ·next e =>
  by_cases hr:r<i
  ·rw[if_pos hr,if_pos e7]
  ·rw[if_neg hr,if_neg e7]
theorem Jr(m N:Nat)(A:j5):ye m N A.length A=A.map (cw m N):=by
 apply List.ext_getElem (by simp[ye])
 intro r h1 h2;simp only[ye,List.length_mapIdx]at h1;simp only[ye,List.getElem_mapIdx,List.getElem_map];rw[if_pos h1]
theorem kJ(q:Nat)(l:j7):(xz q l).length=q:=by simp[xz]
theorem kK{q:Nat}{l:j7}(h:k<q):(xz q l)[k]?.getD []=xd l k:=by simp[xz,h]
theorem fd(l:j7)(k:Nat):(xd l k).length=l.length:=by simp[xd]
theorem NC(b:Bool):0<=vX b/\vX b<=1:=by cases b<;>decide
theorem MC(l:j7)(k j:Nat):0<=(xd l k)[j]?.getD 0/\(xd l k)[j]?.getD 0<=1:=by
 by_cases h:j<l.length
 ·have:(xd l k)[j]?.getD 0=vX (yq l[j] (k:Int)):=by simp[xd,h]
  rw[this];exact NC _
 ·rw[List.getElem?_eq_none (by rw[fd];omega)];simp
theorem MA(V:j7)(G:j7)(E:j2)(q:Nat):
 ye G.length ((bd V G++aK V E).map (·.1)).length q (xz q ((bd V G++aK V E).map (·.1)))=(List.range q).map (yY (bd V G++aK V E) q):=by
 have:=Jr G.length ((bd V G++aK V E).map (·.1)).length (xz q ((bd V G++aK V E).map (·.1)));rw[kJ]at this;rw[this];unfold xz;rw[List.map_map]
 apply List.map_congr_left
 intro k hk;exact Jn V G E q k (List.mem_range.1 hk)
structure Hn(W Wc:World)(B z:Nat)(va:Value)(us rs:List Value)(A:j5)(vc:Value)(C:j4):Prop where
 out:vv Wc B va us
 rows:bu Wc B rs A
 top:∀i k,i<A.length->(rs[i]?.getD undef).ownBlock=some k->k<z
 c:l9 Wc B vc C
 ext:Ext W Wc
 hz:z<=Wc.heap.size
theorem Hn.more(h:Hn W Wc B z va us rs A vc C)(hx:Ext Wc Wd):Hn W Wd B z va us rs A vc C :=
 ⟨h.out.ext hx,h.rows.ext hx,h.top,h.c.ext hx,h.ext.trans hx,Nat.le_trans h.hz hx.size⟩
theorem Hn.push{G:World}{I:Value}{E:List Value}(h:Hn W Wc B z va us rs A vc C)(hx:Ext Wc Wd)(hg:Wd.grownBy G va.ownBlock)(J:vv G B I E)(K:W.heap.size<=B):Hn W G B z I E rs A vc C:=by
 have h1:=h.more hx;refine⟨J,h1.rows.keep fun i k hi hk=>hg.block k ((h1.rows.row i hi).lt k hk).2 fun e=>(h1.rows.row i hi).apart h1.out k hk e.symm,h.top,?_,h1.ext.grown hg fun k hk=>Nat.le_trans K (h1.out.lt k hk).1,Nat.le_trans h1.hz hg.size⟩;exact h1.c.keep fun k hk=>hg.block k (h1.c.lt k hk).2 fun e=>aU (by decide) h1.c h1.out k hk e.symm
theorem Hn.OT{I:World}(h:Hn W Wc B z va us rs A vc C)(hx:Ext Wc Wd){G:Value}{l:j7}(E:o5 Wd z G l)(hg:Wd.grownBy I G.ownBlock)(J:W.heap.size<=z):Hn W I B z va us rs A vc C:=by
 have h1:=h.more hx;refine⟨h1.out.keep fun k hk=>hg.block k (h1.out.lt k hk).2 fun e=>E.apart h1.out k e.symm hk,h1.rows.keep fun i k hi hk=>hg.block k ((h1.rows.row i hi).lt k hk).2 fun e=>?_,h.top,h1.c.keep fun k hk=>hg.block k (h1.c.lt k hk).2 fun e=>aU (by decide) h1.c E k hk e.symm,h1.ext.grown hg fun k hk=>Nat.le_trans J (E.lt k hk).1,Nat.le_trans h1.hz hg.size⟩;have h2:=h.top i k hi hk;have h3:=(E.lt k e.symm).1;omega
theorem Hn.start{G E:World}{cap:Nat}{I:List Value}{J:Value}{l:j7}(K:zd G B a N cap I A)(hx:Ext G E)(hl:o5 E G.heap.size J l)(hb:B<=G.heap.size)(hc:l9 E B vc C)(hW:Ext W E):
 Hn W E B E.heap.size (.slice a N cap) I (I++[J]) (A++[l]) vc C :=
 have hr:=K.rows.snoc hx hl hb
 ⟨K.own.ext hx,hr,fun i k hi hk=>((hr.row i hi).lt k hk).2,hc,hW,Nat.le_refl _⟩
theorem Ints.Pv{x:Int}(h:w.cell? ⟨n,0,none⟩=some (.int .i64 x)):Ints w (some ⟨n,0,none⟩) 1 1 [x] :=
 ⟨rfl,Nat.le_refl _,by omega,fun k hk=>⟨n,0,rfl,fun k hk=>by
  obtain rfl:k=0:=by omega
  exact h⟩⟩
end Go.Proofs.YtdadoignenffgaaGreatDoor
