import Derived.Test.YtalmoolkhcgmmaaGreatNqAltG16
import Derived.Test.YtalmoolkhcgmmaaGreatNqAltG15
import Derived.Test.YtalmoolkhcgmmaaGreatNqAltG13
set_option linter.unusedVariables false
set_option linter.unusedSimpArgs false
namespace Go.Proofs.YtalmoolkhcgmmaaGreat
variable{k n m i N B z:Nat}{w W Wc Wd:World}{a:j8}{l:j5}{V r:j9}{A:j7}{va vc:Value}{us rs:List Value}{C:j6}
set_option maxHeartbeats 16000000
set_option maxRecDepth 100000
open Go.RowKit
def gq(L:j5):Nat:=L.foldl (fun a f=>a ||| 2^f.1.toNat) 0
theorem uB{L:j5}(h:k<L.length):gq (L.take (k+1))=gq (L.take k) ||| 2^(L[k]?.getD (0,0,0)).1.toNat:=by
 unfold gq;rw[fA h,List.foldl_append];rfl
theorem wy(c:Nat):∀(L:j5),(∀f∈L,0<=f.1)->(gq L).testBit c=yw L (c:Int):=by
 have key:∀(L:j5) (s:Nat),(∀f∈L,0<=f.1)->(L.foldl (fun a f=>a ||| 2^f.1.toNat) s).testBit c=(s.testBit c||yw L (c:Int)):=by
  intro L
  induction L with
  | nil=>intro s _;simp[yw]
  | cons f L ih =>
    intro s h;rw[List.foldl_cons,ih _ (fun g hg=>h g (List.mem_cons_of_mem _ hg)),Nat.testBit_or,Nat.testBit_two_pow];have h0:=h f List.mem_cons_self;have:decide (f.1.toNat=c)=(f.1 == (c:Int)):=by rw[Bool.eq_iff_iff];simp;omega
    rw[this];simp only[yw,List.any_cons,Bool.or_assoc]
 intro L h;have:=key L 0 h
 simpa[gq]using this
theorem K2:∀(L:j5),(∀f∈L,f.1<=30)->gq L<2^31:=by
 have key:∀(L:j5) (s:Nat),s<2^31->(∀f∈L,f.1<=30)->L.foldl (fun a f=>a ||| 2^f.1.toNat) s<2^31:=by
  intro L
  induction L with
  | nil=>intro s hs _;exact hs
  | cons f L ih =>
    intro s hs h;have h0:=h f List.mem_cons_self;exact ih _ (Nat.or_lt_two_pow hs (Nat.pow_lt_pow_right b9 b9)) fun g hg=>h g (List.mem_cons_of_mem _ hg)
 exact fun L h=>key L 0 (by decide) h
theorem Qt(s k:Nat):bit (s:Int) k=s.testBit k:=by
 unfold bit;rw[Nat.testBit_eq_decide_div_mod_eq,Bool.eq_iff_iff];have:(s:Int)/2^k=((s/2^k:Nat):Int):=by simp
 rw[this];simp only[decide_eq_true_eq];omega
theorem SF{s:Nat}(hs:s<2^31)(hk:k<=30):bits .or .i64 (s:Int) (2^k)=((s ||| 2^k:Nat):Int):=by
 have h2:2^k<2^31:=Nat.pow_lt_pow_right b9 b9;have:=SG s (2^k) b9 b9;rw[<-this]
 congr 1
theorem Lq(k:Nat)(h:k<=30):(1:Int)<=2^k/\(2:Int)^k<=1073741824:=by
 have h1:2^k<=2^30:=Nat.pow_le_pow_right b9 h;have h2:0<2^k:=Nat.pow_pos b9;have h3:((2^k:Nat):Int)=(2:Int)^k:=by simp
 rw[<-h3];omega
def Ae:Enc (Int×Int×Int):=⟨fun x=>[.int .i64 x.1,.int .i64 x.2.1,.int .i64 x.2.2],3,fun _=>rfl,by omega,fun x u h=>by simp only[List.mem_cons,List.not_mem_nil,or_false]at h;rcases h with rfl|rfl|rfl<;>rfl⟩
theorem zk.KR{cap:Nat}(h:zk w a n cap l):F8 Ae w a n cap l :=
 ⟨h.hlen,h.o3,h.l9,fun k hk=>by
  obtain⟨b,off,e,hc⟩:=h.cell k hk;refine⟨b,off,e,fun k x j v hx hv=>?_⟩;have yQ:=(List.getElem?_eq_some_iff.1 hx).1;have h3:=hc k (by rw[<-h.hlen];exact yQ);rw[hx]at h3;simp only[Option.getD_some]at h3
  match j with
  | 0 =>
     obtain rfl:Value.int .i64 x.1=v:=by simpa[Ae]using hv
     exact h3.1
  | 1 =>
     obtain rfl:Value.int .i64 x.2.1=v:=by simpa[Ae]using hv
     exact h3.2.1
  | 2 =>
     obtain rfl:Value.int .i64 x.2.2=v:=by simpa[Ae]using hv
     exact h3.2.2
  | j+3=>simp[Ae]at hv⟩
theorem F8.EU{cap:Nat}(h:F8 Ae w a n cap l):zk w a n cap l :=
 ⟨h.hlen,h.o3,h.l9,fun k hk=>by
  obtain⟨b,off,e,hc⟩:=h.cell k hk;refine⟨b,off,e,fun k hk=>?_⟩;have yQ:k<l.length:=by rw[h.hlen];exact hk
  have hx:=List.getElem?_eq_getElem yQ;rw[hx]
  exact⟨hc k _ 0 _ hx rfl,hc k _ 1 _ hx rfl,hc k _ 2 _ hx rfl⟩⟩
theorem Tryz.DR:(Tryz.prog.info? 62).map (fun i=>(i.zero,i.size,i.bytes))=some (some (.agg #[.int .i64 0,.int .i64 0,.int .i64 0]),Ae.c,24):=by kernel_rfl
theorem tL{cap:Nat}(h:zk w a n cap l)(hb:n<=1099511627776):
 Calls Tryz.prog 57 #[.slice a n cap] w fun e w'=>∃v,e=.returned v/\xm Ae 62 w' w.heap.size v l/\Ext w w':=by
 have heq:∀w':World,(binOp .eql 31 (.slice a n cap) (.slice none 0 0)).run Tryz.prog w'=.ok (.bool a.isNone) w':=fun w'=>Lib.run_eql_slice_nil w' _ _ a n cap 0 0 Tryz.underlying31
 have HL:=ae h.hlen;cases a with
 | none =>
   have hl:l=[]:=by
    have:¬0<n:=fun hn=>by obtain⟨b,off,e,_⟩:=h.cell 0 hn;cases e
    exact List.eq_nil_of_length_eq_zero (j4 HL.o)
   simp only[Option.isNone_none]at heq;go_enter Tryz.func57,Tryz.ntmps57
   go_wp2
   go_ret;exact⟨_,rfl,by rw[hl];exact xm.nil _ _ w _,Ext.refl _⟩
 | some ad =>
   simp only[Option.isNone_some]at heq;have HI:=ae ((h.ext (Ext.alloc w (.cells #[] 62))).KR);have HO:=ae (xm.yG Ae 62 w w.heap.size _ rfl (Nat.le_refl _));clear h;go_enter Tryz.func57,Tryz.ntmps57
   go_wp2_with (first|(at_builtin;refine pU Ae Tryz.DR rfl Tryz.underlying31 (by decide) rfl _ _ rfl w.heap.size _ _ rfl HO.o _ n _ l rfl HI.o (by simpa using hb) e7 ?_;intro v' w1 ho hg l7));go_ret;exact⟨_,rfl,ho,(Ext.alloc _ _).grown hg (fun k hk=>Nat.le_of_eq (Option.some.inj (show some w.heap.size=some k from hk)))⟩
def zJ(n:Nat)(L:j5):j5:=L++[((n:Int)-1,0,1)]
theorem wE{v:Int}(h:-500<=v/\v<=500):xy (0,1) (v,1)=((-v,1),true):=by
 have h1:o5 (0,1)=true:=by decide
 have h2:o5 (v,1)=true:=kR b9 b9 (by simp only;omega) (by simp only;omega) (by simp only;rw[it];simp);unfold xy;rw[h1,h2];simp only[Bool.and_self,if_true];rw[show(0:Int)*1-v*1=-v by omega,show(1:Int)*1=1 by rfl];have h3:o5 (-v,1)=true:=kR b9 b9 (by simp only;omega) (by simp only;omega) (by simp only;rw[it];simp);have hg:gI (-v) 1=1:=by rw[it];simp
 unfold aL;rw[if_neg (by simp[wJ];omega),if_neg b9,hg];simp only[Int.tdiv_one];unfold zB;rw[if_pos h3]
theorem rV(hn:V.length=n)(h1:1<=n)(G:∀y∈V,-500<=y/\y<=500):cD V ((n:Int)-1,0,1)=(-(V[n-1]?.getD 0),1):=by
 have hb:=dM G (n-1);unfold cD;simp only;rw[show((n:Int)-1).toNat=n-1 by omega,wE hb]
theorem gD(hn:V.length=n)(h1:1<=n)(G:∀y∈V,-500<=y/\y<=500)(L:j5):bu V (bd L (n-2))++aN V (zJ n L)=bZ V L:=by
 have e1:aN V (zJ n L)=aN V L++y6 ((n:Int)-1) (cD V ((n:Int)-1,0,1)):=by
  unfold zJ aN;rw[List.flatMap_append];simp
 rw[e1,rV hn h1 G];unfold bZ;rw[hn,List.append_assoc]
def EV(V:j9)(f:Int×Int×Int):Bool:=(xy f.2 (V[f.1.toNat]?.getD 0,1)).2
theorem KL{a b:k5}(h:(xy a b).2=true):o5 (xy a b).1=true:=by
 unfold xy at h⊢
 split at h
 ·next h1=>rw[if_pos h1];exact hJ h
 ·simp at h
theorem O0{a b:k5}(h:(xy a b).2=false):(xy a b).1=(0,0):=by
 unfold xy at h⊢
 split at h
 ·next h1=>rw[if_pos h1];exact nd h
 ·next h1=>rw[if_neg h1]
theorem KI{v:Int}(h:-1000000000<=v/\v<=1000000000):o5 (v,1)=true:=kR e7 e7 (by simp only;omega) (by simp only;omega) (by simp only;rw[it];simp)
theorem uF(hn:V.length=n)(h1:1<=n)(G:∀y∈V,-500<=y/\y<=500){L:j5}:yz (Bs V L)=(zJ n L).all (EV V):=by
 have h0:Bs V L=(bu V (bd L (n-2))).map (fun c=>c.2.2.2)++(zJ n L).flatMap fun f=>[cD V f,(-(cD V f).1,(cD V f).2)]:=by
  unfold Bs;rw[<-gD hn h1 G,List.map_append]
  congr 1
  unfold aN;rw[List.map_flatMap]
  rfl
 have h2:((bu V (bd L (n-2))).map fun c=>c.2.2.2).all o5=true:=by
  rw[List.all_eq_true];intro x hx;obtain⟨c,hc,rfl⟩:=List.mem_map.1 hx;obtain⟨s,_,rfl⟩:=List.mem_map.1 hc;have:=dM G s.toNat;exact KI b9
 unfold yz;rw[h0,List.all_append,h2,Bool.true_and,List.all_flatMap]
 congr 1
 funext f
 unfold EV;cases hf:(xy f.2 (V[f.1.toNat]?.getD 0,1)).2
 ·have:=O0 hf;unfold cD;rw[this]
  decide
 ·have:=KL hf;have h3:=gO (xy f.2 (V[f.1.toNat]?.getD 0,1)).1.1 (xy f.2 (V[f.1.toNat]?.getD 0,1)).1.2;unfold cD;simp only[List.all_cons,List.all_nil,Bool.and_true];rw[h3,this];rfl
def cY(m j:Nat)(r:j9):j9:=r.mapIdx fun i x=>if m<i/\(i-m) % 2=1/\i<j then -x else x
theorem vJ(m j:Nat)(r:j9):(cY m j r).length=r.length:=by simp[cY]
theorem LF{j:Nat}(h:i<r.length):(cY m j r)[i]?.getD 0=if m<i/\(i-m) % 2=1/\i<j then -(r[i]?.getD 0) else r[i]?.getD 0:=by
 simp[cY,h]
theorem sh(m:Nat)(r:j9):cY m (m+1) r=r:=by
 apply List.ext_getElem (by simp[cY])
 intro i h1 h2;simp only[cY,List.getElem_mapIdx];rw[if_neg b9]
theorem um{t:Nat}(h:m+1+2*t<r.length):(cY m (m+1+2*t) r).set (m+1+2*t) (-(r[m+1+2*t]?.getD 0))=cY m (m+1+2*(t+1)) r:=by
 apply List.ext_getElem (by simp[cY])
 intro i h1 h2;rw[List.getElem_set];simp only[cY,List.getElem_mapIdx];simp only[cY,List.length_mapIdx]at h2
 split
 ·next e=>subst e;rw[if_pos b9,List.getElem?_eq_getElem h];rfl
 ·next e =>
  by_cases hc:m<i/\(i-m) % 2=1/\i<m+1+2*t
  ·rw[if_pos hc,if_pos b9]
  ·rw[if_neg hc,if_neg b9]
theorem vI{j:Nat}(h:r.length<=j):cY m j r=cY m r.length r:=by
 apply List.ext_getElem (by simp[cY])
 intro i h1 h2;simp only[cY,List.getElem_mapIdx];simp only[cY,List.length_mapIdx]at h2;by_cases hc:m<i/\(i-m) % 2=1
 ·rw[if_pos ⟨hc.1,hc.2,by omega⟩,if_pos ⟨hc.1,hc.2,by omega⟩]
 ·rw[if_neg b9,if_neg b9]
theorem mK(V:j9):∀(E:j5) (i:Nat) (c:IF),(aN V E)[i]?=some c->c.2.1=if i % 2=1 then -1 else 1
 | [],i,c,h=>by simp[aN]at h
 | f::E,0,c,h=>by
   simp only[aN,List.flatMap_cons,y6,List.cons_append,List.getElem?_cons_zero,Option.some.injEq]at h;subst h;rfl
 | f::E,1,c,h=>by
   simp only[aN,List.flatMap_cons,y6,List.cons_append,List.getElem?_cons_succ,List.getElem?_cons_zero,Option.some.injEq]at h;subst h;rfl
 | f::E,i+2,c,h=>by
   simp only[aN,List.flatMap_cons,y6,List.cons_append,List.nil_append,List.getElem?_cons_succ]at h;have:=mK V E i c h;rw[this];have:(i+2) % 2=i % 2:=by omega
   rw[this]
theorem tV(V:j9)(E:j5):∀c∈aN V E,c.2.2.1=false:=by
 intro c hc;obtain⟨f,_,h2⟩:=List.mem_flatMap.1 hc;simp only[y6,List.mem_cons,List.not_mem_nil,or_false]at h2
 rcases h2 with rfl|rfl<;>rfl
theorem LD(V:j9)(G:j9)(E:j5)(q k:Nat)(hk:k<q):
 cY G.length ((bu V G++aN V E).map (·.1)).length (wW ((bu V G++aN V E).map (·.1)) k)=AH (bu V G++aN V E) q k:=by
 apply List.ext_getElem (by simp[cY,wW,AH])
 intro i h1 h2;simp only[AH,List.length_map]at h2;simp only[cY,wW,AH,List.getElem_mapIdx,List.getElem_map,List.length_map];unfold Gj;rw[if_pos hk];by_cases hi:i<G.length
 ·rw[if_neg b9];have:(bu V G++aN V E)[i].2.1=1:=by
   rw[List.getElem_append_left (by rw[ch];exact hi)];simp[bu]
  rw[this];omega
 ·have hl:=ch V G;have hb:i-(bu V G).length<(aN V E).length:=by rw[List.length_append]at h2;omega
  have e:(bu V G++aN V E)[i]=(aN V E)[i-(bu V G).length]:=List.getElem_append_right b9;have hs:=mK V E (i-(bu V G).length) _ (List.getElem?_eq_getElem hb);rw[<-e,hl]at hs;rw[hs];by_cases hc:(i-G.length) % 2=1
  ·rw[if_pos ⟨by omega,hc,h2⟩,if_pos hc];omega
  ·rw[if_neg b9,if_neg hc];omega
theorem qH(V:j9)(G:j9)(E:j5)(q:Nat):List.replicate G.length 1++List.replicate (2*E.length) 0=AH (bu V G++aN V E) q q:=by
 unfold AH;rw[List.map_append]
 congr 1
 ·refine(List.eq_replicate_iff.2 ⟨by rw[List.length_map,ch],fun x hx=>?_⟩).symm;obtain⟨c,hc,rfl⟩:=List.mem_map.1 hx;obtain⟨s,_,rfl⟩:=List.mem_map.1 hc;simp[Gj,wL]
 ·refine(List.eq_replicate_iff.2 ⟨by rw[List.length_map,eR],fun x hx=>?_⟩).symm;obtain⟨c,hc,rfl⟩:=List.mem_map.1 hx;have:=tV V E c hc;simp[Gj,this,wL]
theorem vR(q:Nat):List.replicate q 0++[(1:Int)]=CW q:=by
 unfold CW;rw[List.range_succ,List.map_append]
 congr 1
 ·refine(List.eq_replicate_iff.2 ⟨by simp,fun x hx=>?_⟩).symm;obtain⟨k,hk,rfl⟩:=List.mem_map.1 hx;have:k<q:=List.mem_range.1 hk;rw[decide_eq_false b9];rfl
 ·simp[wL]
def zX(m N i:Nat)(A:j7):j7:=A.mapIdx fun r row=>if r<i then cY m N row else row
theorem LH(m N i:Nat)(A:j7):(zX m N i A).length=A.length:=by simp[zX]
theorem vH(m N:Nat)(A:j7):zX m N 0 A=A:=by
 apply List.ext_getElem (by simp[zX])
 intro r h1 h2;simp[zX]
theorem tc(h:i<A.length):(zX m N i A)[i]?.getD []=A[i]?.getD []:=by
 simp[zX,h]
theorem vG(h:i<A.length):(zX m N i A).set i (cY m N (A[i]?.getD []))=zX m N (i+1) A:=by
 apply List.ext_getElem (by simp[zX])
 intro r h1 h2;rw[List.getElem_set];simp only[zX,List.getElem_mapIdx]
 split
 ·next e=>subst e;rw[if_pos b9,List.getElem?_eq_getElem h];rfl
 ·next e =>
  by_cases hr:r<i
  ·rw[if_pos hr,if_pos b9]
  ·rw[if_neg hr,if_neg b9]
theorem LI(m N:Nat)(A:j7):zX m N A.length A=A.map (cY m N):=by
 apply List.ext_getElem (by simp[zX])
 intro r h1 h2;simp only[zX,List.length_mapIdx]at h1;simp only[zX,List.getElem_mapIdx,List.getElem_map];rw[if_pos h1]
theorem lR(q:Nat)(l:j9):(zM q l).length=q:=by simp[zM]
theorem lS{q:Nat}{l:j9}(h:k<q):(zM q l)[k]?.getD []=wW l k:=by simp[zM,h]
theorem di(l:j9)(k:Nat):(wW l k).length=l.length:=by simp[wW]
theorem Qu(b:Bool):0<=wL b/\wL b<=1:=by cases b<;>decide
theorem Po(l:j9)(k j:Nat):0<=(wW l k)[j]?.getD 0/\(wW l k)[j]?.getD 0<=1:=by
 by_cases h:j<l.length
 ·have:(wW l k)[j]?.getD 0=wL (xt l[j] (k:Int)):=by simp[wW,h]
  rw[this];exact Qu _
 ·rw[List.getElem?_eq_none (by rw[di];omega)];simp
theorem Pk(V:j9)(G:j9)(E:j5)(q:Nat):
 zX G.length ((bu V G++aN V E).map (·.1)).length q (zM q ((bu V G++aN V E).map (·.1)))=(List.range q).map (AH (bu V G++aN V E) q):=by
 have:=LI G.length ((bu V G++aN V E).map (·.1)).length (zM q ((bu V G++aN V E).map (·.1)));rw[lR]at this;rw[this];unfold zM;rw[List.map_map]
 apply List.map_congr_left
 intro k hk;exact LD V G E q k (List.mem_range.1 hk)
structure JI(W Wc:World)(B z:Nat)(va:Value)(us rs:List Value)(A:j7)(vc:Value)(C:j6):Prop where
 out:xe Wc B va us
 rows:bC Wc B rs A
 top:∀i k,i<A.length->(rs[i]?.getD undef).ownBlock=some k->k<z
 c:l8 Wc B vc C
 ext:Ext W Wc
 hz:z<=Wc.heap.size
theorem JI.more(h:JI W Wc B z va us rs A vc C)(hx:Ext Wc Wd):JI W Wd B z va us rs A vc C :=
 ⟨h.out.ext hx,h.rows.ext hx,h.top,h.c.ext hx,h.ext.trans hx,Nat.le_trans h.hz hx.size⟩
theorem JI.push{I:World}{J:Value}{G:List Value}(h:JI W Wc B z va us rs A vc C)(hx:Ext Wc Wd)(hg:Wd.grownBy I va.ownBlock)(ho:xe I B J G)(hB:W.heap.size<=B):JI W I B z J G rs A vc C:=by
 have h1:=h.more hx;refine⟨ho,h1.rows.keep fun i k hi hk=>hg.block k ((h1.rows.row i hi).lt k hk).2 fun e=>(h1.rows.row i hi).apart h1.out k hk e.symm,h.top,?_,h1.ext.grown hg fun k hk=>Nat.le_trans hB (h1.out.lt k hk).1,Nat.le_trans h1.hz hg.size⟩;exact h1.c.keep fun k hk=>hg.block k (h1.c.lt k hk).2 fun e=>aY (by decide) h1.c h1.out k hk e.symm
theorem JI.RM{I:World}(h:JI W Wc B z va us rs A vc C)(hx:Ext Wc Wd){G:Value}{l:j9}(hT:o8 Wd z G l)(hg:Wd.grownBy I G.ownBlock)(J:W.heap.size<=z):JI W I B z va us rs A vc C:=by
 have h1:=h.more hx;refine⟨h1.out.keep fun k hk=>hg.block k (h1.out.lt k hk).2 fun e=>hT.apart h1.out k e.symm hk,h1.rows.keep fun i k hi hk=>hg.block k ((h1.rows.row i hi).lt k hk).2 fun e=>?_,h.top,h1.c.keep fun k hk=>hg.block k (h1.c.lt k hk).2 fun e=>aY (by decide) h1.c hT k hk e.symm,h1.ext.grown hg fun k hk=>Nat.le_trans J (hT.lt k hk).1,Nat.le_trans h1.hz hg.size⟩;have h2:=h.top i k hi hk;have h3:=(hT.lt k e.symm).1;omega
theorem JI.start{I G:World}{cap:Nat}{J:List Value}{K:Value}{l:j9}(O:A4 I B a N cap J A)(hx:Ext I G)(hl:o8 G I.heap.size K l)(hb:B<=I.heap.size)(hc:l8 G B vc C)(hW:Ext W G):
 JI W G B G.heap.size (.slice a N cap) J (J++[K]) (A++[l]) vc C :=
 have hr:=O.rows.snoc hx hl hb
 ⟨O.own.ext hx,hr,fun i k hi hk=>((hr.row i hi).lt k hk).2,hc,hW,Nat.le_refl _⟩
theorem Ints.SH{x:Int}(h:w.cell? ⟨n,0,none⟩=some (.int .i64 x)):Ints w (some ⟨n,0,none⟩) 1 1 [x] :=
 ⟨rfl,Nat.le_refl _,by omega,fun k hk=>⟨n,0,rfl,fun k hk=>by
  obtain rfl:k=0:=by omega
  exact h⟩⟩
end Go.Proofs.YtalmoolkhcgmmaaGreat
