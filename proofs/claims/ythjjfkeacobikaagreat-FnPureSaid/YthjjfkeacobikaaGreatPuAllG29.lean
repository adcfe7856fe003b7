import Derived.Test.YthjjfkeacobikaaGreatPuAllG4
import Derived.Deep.RegionLaw
import Derived.Laws.EntriesVeiled
import Derived.Test.YthjjfkeacobikaaGreatPuAllG28
import Derived.Test.YthjjfkeacobikaaGreatPuAllG11
set_option linter.unusedVariables false
set_option linter.unusedSimpArgs false
namespace Go.Proofs.YthjjfkeacobikaaGreat
set_option maxRecDepth 100000
open Go.RowKit
def eO (L:List (Int × Int × Int)):Nat:=L.foldl (fun a f=>a ||| 2 ^ f.1.toNat) 0
theorem oS {L:List (Int × Int × Int)} {k:Nat} (h:k<L.length):eO (L.take (k+1))=eO (L.take k) ||| 2 ^ (L[k]?.getD (0,0,0)).1.toNat:=by
 unfold eO;rw [ep h,List.foldl_append];rfl
theorem qq (c:Nat):∀ (L:List (Int × Int × Int)),(∀ f ∈ L,0<=f.1)->(eO L).testBit c=hasX L (c:Int):=by
 have key:∀ (L:List (Int × Int × Int)) (s:Nat),(∀ f ∈ L,0<=f.1)->(L.foldl (fun a f=>a ||| 2 ^ f.1.toNat) s).testBit c=(s.testBit c||hasX L (c:Int)):=by
  intro L
  induction L with
  | nil=>intro s _;simp [hasX]
  | cons f L ih =>
    intro s h;rw [List.foldl_cons,ih _ (fun g hg=>h g (List.mem_cons_of_mem _ hg)),Nat.testBit_or,Nat.testBit_two_pow];have h0:=h f List.mem_cons_self;have:decide (f.1.toNat=c)=(f.1 == (c:Int)):=by rw [Bool.eq_iff_iff];simp;omega
    rw [this];simp only [hasX,List.any_cons,Bool.or_assoc]
 intro L h;have:=key L 0 h
 simpa [eO] using this
theorem seenN_lt:∀ (L:List (Int × Int × Int)),(∀ f ∈ L,f.1<=30)->eO L<2 ^ 31:=by
 have key:∀ (L:List (Int × Int × Int)) (s:Nat),s<2 ^ 31->(∀ f ∈ L,f.1<=30)->L.foldl (fun a f=>a ||| 2 ^ f.1.toNat) s<2 ^ 31:=by
  intro L
  induction L with
  | nil=>intro s hs _;exact hs
  | cons f L ih =>
    intro s hs h;have h0:=h f List.mem_cons_self;exact ih _ (Nat.or_lt_two_pow hs (Nat.pow_lt_pow_right (by omega) (by omega))) fun g hg=>h g (List.mem_cons_of_mem _ hg)
 exact fun L h=>key L 0 (by decide) h
theorem bit_nat (s k:Nat):bit (s:Int) k=s.testBit k:=by
 unfold bit;rw [Nat.testBit_eq_decide_div_mod_eq,Bool.eq_iff_iff];have:(s:Int) / 2 ^ k=((s / 2 ^ k:Nat):Int):=by simp
 rw [this];simp only [decide_eq_true_eq];omega
theorem or_pow {s k:Nat} (hs:s<2 ^ 31) (hk:k<=30):bits .or .i64 (s:Int) (2 ^ k)=((s ||| 2 ^ k:Nat):Int):=by
 have h2:2 ^ k<2 ^ 31:=Nat.pow_lt_pow_right (by omega) (by omega);have:=or_i64 s (2 ^ k) (by omega) (by omega);rw [<-this]
 congr 1
theorem pow_le30 (k:Nat) (h:k<=30):(1:Int)<=2 ^ k/\(2:Int) ^ k<=1073741824:=by
 have h1:2 ^ k<=2 ^ 30:=Nat.pow_le_pow_right (by omega) h;have h2:0<2 ^ k:=Nat.pow_pos (by omega);have h3:((2 ^ k:Nat):Int)=(2:Int) ^ k:=by simp
 rw [<-h3];omega
def fixE:Enc (Int × Int × Int):=⟨fun x=>[.int .i64 x.1,.int .i64 x.2.1,.int .i64 x.2.2],3,fun _=>rfl,by omega,fun x u h=>by simp only [List.mem_cons,List.not_mem_nil,or_false] at h;rcases h with rfl|rfl|rfl <;> rfl⟩
theorem Fixs.slc {w:World} {a:Option Addr} {n cap:Nat} {l:List (Int × Int × Int)} (h:Fixs w a n cap l):Slc fixE w a n cap l :=
 ⟨h.hlen,h.hcap,h.hmax,fun k hk=>by
  obtain ⟨b,off,e,hc⟩:=h.cell k hk;refine ⟨b,off,e,fun k x j v hx hv=>?_⟩;have hkl:=(List.getElem?_eq_some_iff.1 hx).1;have h3:=hc k (by rw [<-h.hlen];exact hkl);rw [hx] at h3;simp only [Option.getD_some] at h3
  match j with
  | 0 =>
     obtain rfl:Value.int .i64 x.1=v:=by simpa [fixE] using hv
     exact h3.1
  | 1 =>
     obtain rfl:Value.int .i64 x.2.1=v:=by simpa [fixE] using hv
     exact h3.2.1
  | 2 =>
     obtain rfl:Value.int .i64 x.2.2=v:=by simpa [fixE] using hv
     exact h3.2.2
  | j+3=>simp [fixE] at hv⟩
theorem Slc.fixs {w:World} {a:Option Addr} {n cap:Nat} {l:List (Int × Int × Int)} (h:Slc fixE w a n cap l):Fixs w a n cap l :=
 ⟨h.hlen,h.hcap,h.hmax,fun k hk=>by
  obtain ⟨b,off,e,hc⟩:=h.cell k hk;refine ⟨b,off,e,fun k hk=>?_⟩;have hkl:k<l.length:=by rw [h.hlen];exact hk
  have hx:=List.getElem?_eq_getElem hkl;rw [hx]
  exact ⟨hc k _ 0 _ hx rfl,hc k _ 1 _ hx rfl,hc k _ 2 _ hx rfl⟩⟩
theorem Tryz.infoFix:(Tryz.prog.info? 79).map (fun i=>(i.zero,i.size,i.bytes))=some (some (.agg #[.int .i64 0,.int .i64 0,.int .i64 0]),fixE.c,24):=by kernel_rfl
set_option maxHeartbeats 400000 in
theorem om {w:World} {a:Option Addr} {n cap:Nat} {l:List (Int × Int × Int)} (h:Fixs w a n cap l) (hb:n<=1099511627776) :
 Calls Tryz.prog 194 #[.slice a n cap] w fun e w'=>∃ v,e=.returned v/\OwnG fixE 79 w' w.heap.size v l/\Ext w w':=by
 have heq:∀ w':World,(binOp .eql 71 (.slice a n cap) (.slice none 0 0)).run Tryz.prog w'=.ok (.bool a.isNone) w':=fun w'=>Lib.run_eql_slice_nil w' _ _ a n cap 0 0 Tryz.underlying71
 have HL:=ae h.hlen;cases a with
 | none =>
   have hl:l=[]:=by
    have:¬ 0<n:=fun hn=>by obtain ⟨b,off,e,_⟩:=h.cell 0 hn;cases e
    exact List.eq_nil_of_length_eq_zero (by have:=HL.out;omega)
   simp only [Option.isNone_none] at heq;go_enter Tryz.func194,Tryz.ntmps194
   go_wp2
   go_ret;exact ⟨_,rfl,by rw [hl];exact OwnG.nil _ _ w _,Ext.refl _⟩
 | some ad =>
   simp only [Option.isNone_some] at heq;have HI:=ae ((h.ext (Ext.alloc w (.cells #[] 79))).slc);have HO:=ae (OwnG.madeS fixE 79 w w.heap.size _ rfl (Nat.le_refl _));clear h;go_enter Tryz.func194,Tryz.ntmps194
   go_wp2_with (first|(at_builtin;refine lE fixE Tryz.infoFix rfl Tryz.underlying71 (by decide) rfl _ _ rfl w.heap.size _ _ rfl HO.out _ n _ l rfl HI.out (by simpa using hb) (by simp) ?_;intro v' w1 ho hg hnear));go_ret;exact ⟨_,rfl,ho,(Ext.alloc _ _).grown hg (fun k hk=>Nat.le_of_eq (Option.some.inj (show some w.heap.size=some k from hk)))⟩
def extE (n:Nat) (L:List (Int × Int × Int)):List (Int × Int × Int):=L++[((n:Int)-1,0,1)]
theorem qu {v:Int} (h:-500<=v/\v<=500):subR (0,1) (v,1)=((-v,1),true):=by
 have h1:valR (0,1)=true:=by decide
 have h2:valR (v,1)=true:=iJ (by omega) (by omega) (by simp only;omega) (by simp only;omega) (by simp only;rw [gH];simp);unfold subR;rw [h1,h2];simp only [Bool.and_self,if_true];rw [show (0:Int)*1-v*1=-v by omega,show (1:Int)*1=1 by rfl];have h3:valR (-v,1)=true:=iJ (by omega) (by omega) (by simp only;omega) (by simp only;omega) (by simp only;rw [gH];simp);have hg:gI (-v) 1=1:=by rw [gH];simp
 unfold aD;rw [if_neg (by simp [inB];omega),if_neg (by omega),hg];simp only [Int.tdiv_one];unfold cutR;rw [if_pos h3]
theorem nm {V:List Int} {n:Nat} (hn:V.length=n) (h1:1<=n) (hV:∀ y ∈ V,-500<=y/\y<=500):eA V ((n:Int)-1,0,1)=(-(V[n-1]?.getD 0),1):=by
 have hb:=gJ hV (n-1);unfold eA;simp only;rw [show ((n:Int)-1).toNat=n-1 by omega,qu hb]
theorem gR {V:List Int} {n:Nat} (hn:V.length=n) (h1:1<=n) (hV:∀ y ∈ V,-500<=y/\y<=500) (L:List (Int × Int × Int)):be V (aN L (n-2))++aI V (extE n L)=cJ V L:=by
 have e1:aI V (extE n L)=aI V L++twoC ((n:Int)-1) (eA V ((n:Int)-1,0,1)):=by
  unfold extE aI;rw [List.flatMap_append];simp
 rw [e1,nm hn h1 hV];unfold cJ;rw [hn,List.append_assoc]
def fitC (V:List Int) (f:Int × Int × Int):Bool:=(subR f.2 (V[f.1.toNat]?.getD 0,1)).2
theorem subR_val {a b:Int × Int} (h:(subR a b).2=true):valR (subR a b).1=true:=by
 unfold subR at h ⊢
 split at h
 ·next h1=>rw [if_pos h1];exact fg h
 ·simp at h
theorem subR_no {a b:Int × Int} (h:(subR a b).2=false):(subR a b).1=(0,0):=by
 unfold subR at h ⊢
 split at h
 ·next h1=>rw [if_pos h1];exact jV h
 ·next h1=>rw [if_neg h1]
theorem valR_int {v:Int} (h:-1000000000<=v/\v<=1000000000):valR (v,1)=true:=iJ (by simp) (by simp) (by simp only;omega) (by simp only;omega) (by simp only;rw [gH];simp)
theorem oW {V:List Int} {n:Nat} (hn:V.length=n) (h1:1<=n) (hV:∀ y ∈ V,-500<=y/\y<=500) {L:List (Int × Int × Int)}:allV (stC V L)=(extE n L).all (fitC V):=by
 have h0:stC V L=(be V (aN L (n-2))).map (fun c=>c.2.2.2)++(extE n L).flatMap fun f=>[eA V f,(-(eA V f).1,(eA V f).2)]:=by
  unfold stC;rw [<-gR hn h1 hV,List.map_append]
  congr 1
  unfold aI;rw [List.map_flatMap]
  rfl
 have h2:((be V (aN L (n-2))).map fun c=>c.2.2.2).all valR=true:=by
  rw [List.all_eq_true];intro x hx;obtain ⟨c,hc,rfl⟩:=List.mem_map.1 hx;obtain ⟨s,_,rfl⟩:=List.mem_map.1 hc;have:=gJ hV s.toNat;exact valR_int (by omega)
 unfold allV;rw [h0,List.all_append,h2,Bool.true_and,List.all_flatMap]
 congr 1
 funext f
 unfold fitC;cases hf:(subR f.2 (V[f.1.toNat]?.getD 0,1)).2
 ·have:=subR_no hf;unfold eA;rw [this]
  decide
 ·have:=subR_val hf;have h3:=fV (subR f.2 (V[f.1.toNat]?.getD 0,1)).1.1 (subR f.2 (V[f.1.toNat]?.getD 0,1)).1.2;unfold eA;simp only [List.all_cons,List.all_nil,Bool.and_true];rw [h3,this];rfl
def cn (m j:Nat) (r:List Int):List Int:=r.mapIdx fun i x=>if m<i/\(i-m) % 2=1/\i<j then -x else x
theorem pL (m j:Nat) (r:List Int):(cn m j r).length=r.length:=by simp [cn]
theorem negTo_at {m j:Nat} {r:List Int} {i:Nat} (h:i<r.length):(cn m j r)[i]?.getD 0=if m<i/\(i-m) % 2=1/\i<j then -(r[i]?.getD 0) else r[i]?.getD 0:=by
 simp [cn,h]
theorem nt (m:Nat) (r:List Int):cn m (m+1) r=r:=by
 apply List.ext_getElem (by simp [cn])
 intro i h1 h2;simp only [cn,List.getElem_mapIdx];rw [if_neg (by omega)]
theorem oH {m t:Nat} {r:List Int} (h:m+1+2*t<r.length):(cn m (m+1+2*t) r).set (m+1+2*t) (-(r[m+1+2*t]?.getD 0))=cn m (m+1+2*(t+1)) r:=by
 apply List.ext_getElem (by simp [cn])
 intro i h1 h2;rw [List.getElem_set];simp only [cn,List.getElem_mapIdx];simp only [cn,List.length_mapIdx] at h2
 split
 ·next e=>subst e;rw [if_pos (by omega),List.getElem?_eq_getElem h];rfl
 ·next e =>
  by_cases hc:m<i/\(i-m) % 2=1/\i<m+1+2*t
  ·rw [if_pos hc,if_pos (by omega)]
  ·rw [if_neg hc,if_neg (by omega)]
theorem pK {m j:Nat} {r:List Int} (h:r.length<=j):cn m j r=cn m r.length r:=by
 apply List.ext_getElem (by simp [cn])
 intro i h1 h2;simp only [cn,List.getElem_mapIdx];simp only [cn,List.length_mapIdx] at h2;by_cases hc:m<i/\(i-m) % 2=1
 ·rw [if_pos ⟨hc.1,hc.2,by omega⟩,if_pos ⟨hc.1,hc.2,by omega⟩]
 ·rw [if_neg (by omega),if_neg (by omega)]
theorem jH (V:List Int):∀ (E:List (Int × Int × Int)) (i:Nat) (c:Col),(aI V E)[i]?=some c->c.2.1=if i % 2=1 then -1 else 1
 | [],i,c,h=>by simp [aI] at h
 | f :: E,0,c,h=>by
   simp only [aI,List.flatMap_cons,twoC,List.cons_append,List.getElem?_cons_zero,Option.some.injEq] at h;subst h;rfl
 | f :: E,1,c,h=>by
   simp only [aI,List.flatMap_cons,twoC,List.cons_append,List.getElem?_cons_succ,List.getElem?_cons_zero,Option.some.injEq] at h;subst h;rfl
 | f :: E,i+2,c,h=>by
   simp only [aI,List.flatMap_cons,twoC,List.cons_append,List.nil_append,List.getElem?_cons_succ] at h;have:=jH V E i c h;rw [this];have:(i+2) % 2=i % 2:=by omega
   rw [this]
theorem ox (V:List Int) (E:List (Int × Int × Int)):∀ c ∈ aI V E,c.2.2.1=false:=by
 intro c hc;obtain ⟨f,_,h2⟩:=List.mem_flatMap.1 hc;simp only [twoC,List.mem_cons,List.not_mem_nil,or_false] at h2
 rcases h2 with rfl|rfl <;> rfl
theorem neg_rows (V:List Int) (fr:List Int) (E:List (Int × Int × Int)) (q k:Nat) (hk:k<q) :
 cn fr.length ((be V fr++aI V E).map (·.1)).length (memR ((be V fr++aI V E).map (·.1)) k)=rowC (be V fr++aI V E) q k:=by
 apply List.ext_getElem (by simp [cn,memR,rowC])
 intro i h1 h2;simp only [rowC,List.length_map] at h2;simp only [cn,memR,rowC,List.getElem_mapIdx,List.getElem_map,List.length_map];unfold onC;rw [if_pos hk];by_cases hi:i<fr.length
 ·rw [if_neg (by omega)];have:(be V fr++aI V E)[i].2.1=1:=by
   rw [List.getElem_append_left (by rw [cQ];exact hi)];simp [be]
  rw [this];omega
 ·have hl:=cQ V fr;have hb:i-(be V fr).length<(aI V E).length:=by rw [List.length_append] at h2;omega
  have e:(be V fr++aI V E)[i]=(aI V E)[i-(be V fr).length]:=List.getElem_append_right (by omega);have hs:=jH V E (i-(be V fr).length) _ (List.getElem?_eq_getElem hb);rw [<-e,hl] at hs;rw [hs];by_cases hc:(i-fr.length) % 2=1
  ·rw [if_pos ⟨by omega,hc,h2⟩,if_pos hc];omega
  ·rw [if_neg (by omega),if_neg hc];omega
theorem ma (V:List Int) (fr:List Int) (E:List (Int × Int × Int)) (q:Nat):List.replicate fr.length 1++List.replicate (2*E.length) 0=rowC (be V fr++aI V E) q q:=by
 unfold rowC;rw [List.map_append]
 congr 1
 ·refine (List.eq_replicate_iff.2 ⟨by rw [List.length_map,cQ],fun x hx=>?_⟩).symm;obtain ⟨c,hc,rfl⟩:=List.mem_map.1 hx;obtain ⟨s,_,rfl⟩:=List.mem_map.1 hc;simp [onC,bitI]
 ·refine (List.eq_replicate_iff.2 ⟨by rw [List.length_map,dP],fun x hx=>?_⟩).symm;obtain ⟨c,hc,rfl⟩:=List.mem_map.1 hx;have:=ox V E c hc;simp [onC,this,bitI]
theorem pR (q:Nat):List.replicate q 0++[(1:Int)]=stB q:=by
 unfold stB;rw [List.range_succ,List.map_append]
 congr 1
 ·refine (List.eq_replicate_iff.2 ⟨by simp,fun x hx=>?_⟩).symm;obtain ⟨k,hk,rfl⟩:=List.mem_map.1 hx;have:k<q:=List.mem_range.1 hk;rw [decide_eq_false (by omega)];rfl
 ·simp [bitI]
def negM (m N i:Nat) (A:List (List Int)):List (List Int):=A.mapIdx fun r row=>if r<i then cn m N row else row
theorem negM_len (m N i:Nat) (A:List (List Int)):(negM m N i A).length=A.length:=by simp [negM]
theorem pJ (m N:Nat) (A:List (List Int)):negM m N 0 A=A:=by
 apply List.ext_getElem (by simp [negM])
 intro r h1 h2;simp [negM]
theorem nO {m N i:Nat} {A:List (List Int)} (h:i<A.length):(negM m N i A)[i]?.getD []=A[i]?.getD []:=by
 simp [negM,h]
theorem pI {m N i:Nat} {A:List (List Int)} (h:i<A.length):(negM m N i A).set i (cn m N (A[i]?.getD []))=negM m N (i+1) A:=by
 apply List.ext_getElem (by simp [negM])
 intro r h1 h2;rw [List.getElem_set];simp only [negM,List.getElem_mapIdx]
 split
 ·next e=>subst e;rw [if_pos (by omega),List.getElem?_eq_getElem h];rfl
 ·next e =>
  by_cases hr:r<i
  ·rw [if_pos hr,if_pos (by omega)]
  ·rw [if_neg hr,if_neg (by omega)]
theorem negM_all (m N:Nat) (A:List (List Int)):negM m N A.length A=A.map (cn m N):=by
 apply List.ext_getElem (by simp [negM])
 intro r h1 h2;simp only [negM,List.length_mapIdx] at h1;simp only [negM,List.getElem_mapIdx,List.getElem_map];rw [if_pos h1]
theorem jg (q:Nat) (l:List Int):(memM q l).length=q:=by simp [memM]
theorem jh {q:Nat} {l:List Int} {k:Nat} (h:k<q):(memM q l)[k]?.getD []=memR l k:=by simp [memM,h]
theorem eC (l:List Int) (k:Nat):(memR l k).length=l.length:=by simp [memR]
theorem bitI_bd (b:Bool):0<=bitI b/\bitI b<=1:=by cases b <;> decide
theorem memR_bd (l:List Int) (k j:Nat):0<=(memR l k)[j]?.getD 0/\(memR l k)[j]?.getD 0<=1:=by
 by_cases h:j<l.length
 ·have:(memR l k)[j]?.getD 0=bitI (hasP l[j] (k:Int)):=by simp [memR,h]
  rw [this];exact bitI_bd _
 ·rw [List.getElem?_eq_none (by rw [eC];omega)];simp
theorem neg_all (V:List Int) (fr:List Int) (E:List (Int × Int × Int)) (q:Nat) :
 negM fr.length ((be V fr++aI V E).map (·.1)).length q (memM q ((be V fr++aI V E).map (·.1)))=(List.range q).map (rowC (be V fr++aI V E) q):=by
 have:=negM_all fr.length ((be V fr++aI V E).map (·.1)).length (memM q ((be V fr++aI V E).map (·.1)));rw [jg] at this;rw [this];unfold memM;rw [List.map_map]
 apply List.map_congr_left
 intro k hk;exact neg_rows V fr E q k (List.mem_range.1 hk)
end Go.Proofs.YthjjfkeacobikaaGreat
