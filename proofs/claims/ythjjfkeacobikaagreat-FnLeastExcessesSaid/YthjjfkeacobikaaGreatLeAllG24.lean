import Derived.Test.YthjjfkeacobikaaGreatLeAllG16
import Derived.Test.YthjjfkeacobikaaGreatLeAllG43
import Derived.Test.YthjjfkeacobikaaGreatLeAllG6
import Derived.Test.YthjjfkeacobikaaGreatLeAllG3
import Derived.Deep.DeepCutAuto
set_option linter.unusedVariables false
set_option linter.unusedSimpArgs false
namespace Go.Proofs.YthjjfkeacobikaaGreat
open Go.RowKit
theorem dC (c:Rat) (f:Nat->Rat):∀ m,sumN (fun k=>c*f k) m=c*sumN f m
 | 0=>by simp only [sumN];grind
 | m+1=>by simp only [sumN];rw [dC c f m];grind
theorem jE (f:Nat->Nat->Rat) (m:Nat):∀ n,sumN (fun j=>sumN (fun i=>f i j) m) n=sumN (fun i=>sumN (fun j=>f i j) n) m
 | 0=>by
   simp only [sumN];exact (eo fun _ _=>rfl).symm
 | n+1=>by
   simp only [sumN];rw [jE f m n];have:=dB (fun i=>sumN (fun j=>f i j) n) (fun i=>f i n) 1 m;simp only [Rat.one_mul] at this;rw [this]
theorem cert_avg {A:List (List Int)} {B:List Int} {C:List (Int × Int)} {r:LpR} (hc:Cert A B C r) (z:Nat->Rat) :
 sumN (fun j=>vrow r.X j*(- vrow C j-sumN (fun i=>z i*(ent A i j:Rat)) A.length)) C.length=- val r.value-sumN (fun i=>z i*((B[i]?.getD 0:Int):Rat)) A.length:=by
 have h1:sumN (fun j=>vrow r.X j*(- vrow C j-sumN (fun i=>z i*(ent A i j:Rat)) A.length)) C.length=sumN (fun j=>- (vrow C j*vrow r.X j)+(-1)*sumN (fun i=>z i*((ent A i j:Rat)*vrow r.X j)) A.length) C.length:=av fun j hj=>by
  have e:sumN (fun i=>z i*((ent A i j:Rat)*vrow r.X j)) A.length=vrow r.X j*sumN (fun i=>z i*(ent A i j:Rat)) A.length:=by
   rw [<-dC];exact av fun i hi=>by grind
  rw [e]
  grind
 rw [h1,dB,fj,jE,hc.cx];have h2:sumN (fun i=>sumN (fun j=>z i*((ent A i j:Rat)*vrow r.X j)) C.length) A.length=sumN (fun i=>z i*((B[i]?.getD 0:Int):Rat)) A.length:=av fun i hi=>by
  rw [dC,hc.row i hi]
 rw [h2]
 grind
theorem jM {x e:Nat->Rat} {t:Rat} {m:Nat} (h1:sumN x m=1) (h0:∀ j,j<m->0<=x j) (he:∀ j,j<m->e j<=t):sumN (fun j=>x j*e j) m<=t:=by
 have h2:sumN (fun j=>x j*e j) m<=sumN (fun j=>t*x j) m:=mJ fun j hj=>by
  have:=Rat.mul_le_mul_of_nonneg_left (he j hj) (h0 j hj)
  grind
 rw [dC,h1] at h2
 grind
theorem mZ {x e:Nat->Rat} {t:Rat} {m:Nat} (h1:sumN x m=1) (h0:∀ j,j<m->0<=x j) (ht:sumN (fun j=>x j*e j) m=t) {k:Nat} (hk:k<m) (hx:0<x k) (hne:e k ≠ t):∃ j,j<m/\0<x j/\t<e j:=by
 false_or_by_contra
 rename_i hno
 have hle:∀ j,j<m->x j*e j<=t*x j:=fun j hj=>by
  by_cases hj0:0<x j
  ·have:e j<=t:=by
    by_cases h:t<e j
    ·exact absurd ⟨j,hj,hj0,h⟩ hno
    ·grind
   have:=Rat.mul_le_mul_of_nonneg_left this (h0 j hj)
   grind
  ·have:=h0 j hj;have:x j=0:=by grind
   rw [this];grind
 have hlt:e k<t:=by
  by_cases h:t<e k
  ·exact absurd ⟨k,hk,hx,h⟩ hno
  ·grind
 have hd:sumN (fun j=>t*x j-x j*e j) m=0:=by
  have e1:sumN (fun j=>t*x j-x j*e j) m=sumN (fun j=>t*x j+(-1)*(x j*e j)) m:=av fun j _=>by grind
  rw [e1,dB,dC,h1,ht]
  grind
 have hge:t*x k-x k*e k<=sumN (fun j=>t*x j-x j*e j) m:=by
  have e2:sumN (fun j=>if j=k then t*x j-x j*e j else 0) m<=sumN (fun j=>t*x j-x j*e j) m:=mJ fun j hj=>by
   have:=hle j hj
   split <;> grind
  rw [fk hk (fun j _ hj=>if_neg hj),if_pos rfl] at e2;exact e2
 rw [hd] at hge;have hpos:0<x k*(t-e k):=Rat.mul_pos hx (by grind)
 grind
structure Fixs (w:World) (a:Option Addr) (n cap:Nat) (l:List (Int × Int × Int)):Prop where
 hlen:l.length=n
 hcap:n<=cap
 hmax:cap<=9223372036854775807
 cell:∀ k,k<n->∃ b off,a=some ⟨b,off,none⟩/\∀ k,k<n->w.cell? ⟨b,off+k*3,none⟩=some (.int .i64 (l[k]?.getD (0,0,0)).1)/\w.cell? ⟨b,off+k*3+1,none⟩=some (.int .i64 (l[k]?.getD (0,0,0)).2.1)/\w.cell? ⟨b,off+k*3+2,none⟩=some (.int .i64 (l[k]?.getD (0,0,0)).2.2)
theorem Fixs.ext {w w':World} {a:Option Addr} {n cap:Nat} {l:List (Int × Int × Int)} (h:Fixs w a n cap l) (hx:Ext w w'):Fixs w' a n cap l :=
 ⟨h.hlen,h.hcap,h.hmax,fun k hk=>let ⟨b,off,e,hc⟩:=h.cell k hk;⟨b,off,e,fun k hk=>⟨hx.cellSome (hc k hk).1,hx.cellSome (hc k hk).2.1,hx.cellSome (hc k hk).2.2⟩⟩⟩
theorem Fixs.at {w:World} {a:Option Addr} {n cap:Nat} {l:List (Int × Int × Int)} (h:Fixs w a n cap l) {k:Nat} (hk:k<n) :
 ∃ b off x y z,a=some ⟨b,off,none⟩/\l[k]?.getD (0,0,0)=(x,y,z)/\w.cell? ⟨b,off+k*3,none⟩=some (.int .i64 x)/\w.cell? ⟨b,off+k*3+1,none⟩=some (.int .i64 y)/\w.cell? ⟨b,off+k*3+2,none⟩=some (.int .i64 z) :=
 let ⟨b,off,e,hc⟩:=h.cell k hk;⟨b,off,_,_,_,e,rfl,(hc k hk).1,(hc k hk).2.1,(hc k hk).2.2⟩
theorem eX {l:List (Int × Int × Int)} {k:Nat} (h:k<l.length):l.take (k+1)=l.take k++[l[k]?.getD (0,0,0)]:=by
 rw [List.take_succ_eq_append_getElem h];simp [h]
def fixC (p:Int × Int × Int):List Value:=[.int .i64 p.1,.int .i64 p.2.1,.int .i64 p.2.2]
def fixCells (l:List (Int × Int × Int)):Array Value:=(l.flatMap fixC).toArray
theorem fixC_at:∀ (l:List (Int × Int × Int)) (k:Nat),k<l.length->(l.flatMap fixC)[k*3]?=some (.int .i64 (l[k]?.getD (0,0,0)).1)/\(l.flatMap fixC)[k*3+1]?=some (.int .i64 (l[k]?.getD (0,0,0)).2.1)/\(l.flatMap fixC)[k*3+2]?=some (.int .i64 (l[k]?.getD (0,0,0)).2.2)
 | [],k,h=>absurd h (by simp)
 | p :: l,0,_=>by simp [fixC]
 | p :: l,k+1,h=>by
   have:=fixC_at l k (by simpa using h);rw [show (k+1)*3=k*3+1+1+1 by omega]
   simpa [fixC] using this
theorem fixC_set:∀ (l:List (Int × Int × Int)) (k:Nat) (x y z:Int),k<l.length->(((l.flatMap fixC).set (k*3) (.int .i64 x)).set (k*3+1) (.int .i64 y)).set (k*3+2) (.int .i64 z)=(l.set k (x,y,z)).flatMap fixC
 | [],k,_,_,_,h=>absurd h (by simp)
 | p :: l,0,_,_,_,_=>by simp [fixC]
 | p :: l,k+1,x,y,z,h=>by
   have:=fixC_set l k x y z (by simpa using h);rw [show (k+1)*3=k*3+1+1+1 by omega]
   simpa [fixC] using this
def FRow (w:World) (b:Nat) (t:TypeId) (l:List (Int × Int × Int)):Prop:=w.heap[b]?=some (.cells (fixCells l) t (0,0))
def hasX (l:List (Int × Int × Int)) (s:Int):Bool:=l.any fun f=>f.1 == s
theorem sK {l:List (Int × Int × Int)} {k:Nat} {s:Int} (h:k<l.length):hasX (l.take (k+1)) s=(hasX (l.take k) s||(l[k]?.getD (0,0,0)).1 == s):=by
 rw [eX h];simp [hasX]
theorem hasX_at {l:List (Int × Int × Int)} {k:Nat} {s:Int} (h:k<l.length) (e:(l[k]?.getD (0,0,0)).1=s):hasX l s=true:=by
 unfold hasX;rw [List.any_eq_true];exact ⟨l[k],List.getElem_mem h,by rw [List.getElem?_eq_getElem h] at e;simpa using e⟩
set_option maxHeartbeats 2000000 in
theorem kH {w:World} {a:Option Addr} {n cap:Nat} {l:List (Int × Int × Int)} (h:Fixs w a n cap l) (s:Int) :
 Calls Tryz.prog 187 #[.slice a n cap,.int .i64 s] w fun e w'=>e=.returned (.bool (hasX l s))/\w=w':=by
 have hcap:=h.hcap;have hmax:=h.hmax;have HL:=ae h.hlen;have HF:=ae h;clear h;go_enter Tryz.func187,Tryz.ntmps187
 go_wp2_with fail
 go_loop [5] (fun ii=>∃ k:Nat,k<=n/\ii=.int .i64 (k:Int)/\Hid (hasX (l.take k) s=false)) (fun ii=>n-(intOf ii).toNat)
 case atStart=>exact ⟨0,Nat.zero_le _,rfl,ae rfl⟩
 case round =>
  obtain ⟨k,hk,rfl,HH⟩:=hrel;by_cases hlt:k<n
  ·obtain ⟨b,off,x,y,z,rfl,hx,hc,hc1,hc2⟩:=HF.out.at hlt;by_cases hxs:x=s
   ·have HT:=ae (hasX_at (l:=l) (k:=k) (s:=s) (by rw [HL.out];exact hlt) (by rw [hx];exact hxs));subst hxs;clear hx;go_wp2_with fail;go_ret;exact ⟨ag HT.out.symm,rfl⟩
   ·have hxb:(x == s)=false:=by simpa using hxs
    have HT:=ae (show hasX (l.take (k+1)) s=false by rw [sK (by rw [HL.out];exact hlt),HH.out,hx];simpa using hxs);clear hx;go_wp2_with fail
    go_round
    case rel=>exact ⟨k+1,by omega,by go_num,HT⟩
    case measure=>simp [intOf];omega
  ·have HT:=ae (show l.take k=l from List.take_of_length_le (by rw [HL.out];omega));go_wp2_with fail;go_ret;exact ⟨ag (by have:=HH.out;rw [HT.out] at this;exact this.symm),rfl⟩
def aM (L:List (Int × Int × Int)) (m:Nat):List Int:=(seqI 1 m).filter fun s=>!hasX L s
theorem qS (L:List (Int × Int × Int)) (m:Nat):aM L (m+1)=aM L m++(if hasX L ((m:Int)+1)=true then [] else [(m:Int)+1]):=by
 unfold aM seqI;rw [List.range_succ,List.map_append,List.filter_append]
 congr 1
 rw [List.map_singleton,show (1:Int)+(m:Int)=(m:Int)+1 by omega];simp only [List.filter_cons,List.filter_nil];cases hasX L ((m:Int)+1) <;> rfl
theorem dY (L:List (Int × Int × Int)) (m:Nat):(aM L m).length<=m:=by
 unfold aM;exact Nat.le_trans (List.length_filter_le _ _) (by simp [seqI])
theorem im {L:List (Int × Int × Int)} {m:Nat} {s:Int} (h:s ∈ aM L m):1<=s/\s<=m/\hasX L s=false:=by
 unfold aM seqI at h;simp only [List.mem_filter,List.mem_map,List.mem_range,Bool.not_eq_true'] at h;obtain ⟨⟨i,hi,rfl⟩,h2⟩:=h;exact ⟨by omega,by omega,h2⟩
set_option maxHeartbeats 4000000 in
theorem jz {w:World} (x:Int) (a:Option Addr) (n cap:Nat) (hn:n<=1000) {fa:Option Addr} {fn fcap:Nat} {L:List (Int × Int × Int)} (h:Fixs w fa fn fcap L) :
 Calls Tryz.prog 125 #[pair x a n cap,.slice fa fn fcap] w fun e w'=>(∃ v,e=.returned v/\OwnI w' w.heap.size v (aM L (n-2)))/\Ext w w':=by
 obtain ⟨m,hm⟩:∃ m,m=n-2:=⟨_,rfl⟩;have HM:=ae hm;have HF:=ae h;have HX0:=ae (Ext.alloc w (.cells #[.int .i64 x,.slice a n cap] 29));have HO:=ae (OwnI.madeS (w.alloc (.cells #[.int .i64 x,.slice a n cap] 29)) (w.heap.size+1) (w.heap.size+1) (by simp) (by simp));rw [<-hm];clear h hm;go_enter Tryz.func125,Tryz.ntmps125
 go_wp2_with fail
 go_loopg [5,6] m (fun gk oo ii wr=>∃ (k:Nat) (a1:Option Addr) (n1 p1:Nat),Hid (gk+k=m)/\ii=.int .i64 ((k:Int)+1)/\oo=.slice a1 n1 p1/\Hid (OwnI wr (w.heap.size+1) (.slice a1 n1 p1) (aM L k))/\Hid (Ext (w.alloc (.cells #[.int .i64 x,.slice a n cap] 29)) wr))
 case atStart=>exact ⟨0,_,_,_,ae (by omega),by simp,rfl,HO,ae (Ext.alloc _ _)⟩
 case round =>
  obtain ⟨g1,h_g1⟩:∃ x,x=gk:=⟨_,rfl⟩;subst h_g1;obtain ⟨wr1,h_wr1⟩:∃ x,x=wr:=⟨_,rfl⟩;subst h_wr1;obtain ⟨k,a1,n1,p1,HK,rfl,rfl,HO1,HX⟩:=hrel;have hsz:=HX.out.size;rw [World.size_alloc] at hsz;have hc:wr1.cell? ⟨w.heap.size,1,none⟩=some (.slice a n cap):=HX.out.cellSome (by simp);have hkm:k<=m:=by have:=HK.out;omega
  have hm1000:m<=1000:=by have:=HM.out;omega
  by_cases hlt:k<m
  ·have hn1:(k:Int)+1<(n:Int)-1:=by have:=HM.out;omega
   have HL:=ae (dY L k);have HC:=ae (kH ((HF.out.ext HX0.out).ext HX.out) ((k:Int)+1));have HS:=ae (qS L k);cases hb:hasX L ((k:Int)+1)
   ·rw [hb] at HC HS;clear hb
    go_wp2_with (first
     | (go_at_call 187;refine HC.out.mono ?_;rintro e w' ⟨rfl,rfl⟩)
     | (at_builtin;refine bm rfl _ _ rfl (w.heap.size+1) (.slice a1 n1 p1) _ rfl (HO1.out.ext (Ext.alloc _ _)) _ 1 _ [(k:Int)+1] rfl (Ints.oneS _ _ _ _ (by simp)) (by have:=HL.out;omega) (by simp;omega) ?_;intro v5 w5 ho hg hnear;obtain ⟨a5,n5,p5,rfl,HN5⟩:=ho.var;have HO5:=ae ho;have X5:=ae (ak (HX.out.trans (Ext.alloc _ _)) hg (fun j hj=>by have:=(HO1.out.lt j hj);simp;omega));clear ho hg hnear))
    go_roundg (g1-1)
    case measure=>have:=HK.out;omega
    case rel=>exact ⟨k+1,a5,n5,p5,ae (by have:=HK.out;omega),by go_num,rfl,ae (by have:=HO5.out;rw [HS.out];exact this),X5⟩
   ·rw [hb] at HC HS;clear hb
    go_wp2_with (first
     | (go_at_call 187;refine HC.out.mono ?_;rintro e w' ⟨rfl,rfl⟩))
    go_roundg (g1-1)
    case measure=>have:=HK.out;omega
    case rel=>exact ⟨k+1,a1,n1,p1,ae (by have:=HK.out;omega),by go_num,rfl,ae (by have:=HO1.out;rw [HS.out];simpa using this),HX⟩
  ·have hkn:k=m:=by have:=HK.out;omega
   have hnlt:¬ (k:Int)+1<(n:Int)-1:=by have:=HM.out;omega
   subst hkn;go_wp2_with fail;go_ret;exact ⟨⟨_,rfl,HO1.out.mono (Nat.le_succ _)⟩,HX0.out.trans HX.out⟩
end Go.Proofs.YthjjfkeacobikaaGreat
