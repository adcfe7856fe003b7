import Derived.Test.YthjjfkeacobikaaGreatPuAllG24
import Derived.Test.YthjjfkeacobikaaGreatPuAllG26
import Derived.Test.YthjjfkeacobikaaGreatPuAllG3
import Derived.Test.YthjjfkeacobikaaGreatPuAllG4
import Derived.Deep.DeepCutAuto
set_option linter.unusedVariables false
set_option linter.unusedSimpArgs false
namespace Go.Proofs.YthjjfkeacobikaaGreat
open Go.RowKit
structure Fixs (w:World) (a:Option Addr) (n cap:Nat) (l:List (Int × Int × Int)):Prop where
 hlen:l.length=n
 hcap:n<=cap
 hmax:cap<=9223372036854775807
 cell:∀ k,k<n->∃ b off,a=some ⟨b,off,none⟩/\∀ k,k<n->w.cell? ⟨b,off+k*3,none⟩=some (.int .i64 (l[k]?.getD (0,0,0)).1)/\w.cell? ⟨b,off+k*3+1,none⟩=some (.int .i64 (l[k]?.getD (0,0,0)).2.1)/\w.cell? ⟨b,off+k*3+2,none⟩=some (.int .i64 (l[k]?.getD (0,0,0)).2.2)
theorem Fixs.ext {w w':World} {a:Option Addr} {n cap:Nat} {l:List (Int × Int × Int)} (h:Fixs w a n cap l) (hx:Ext w w'):Fixs w' a n cap l :=
 ⟨h.hlen,h.hcap,h.hmax,fun k hk=>let ⟨b,off,e,hc⟩:=h.cell k hk;⟨b,off,e,fun k hk=>⟨hx.cellSome (hc k hk).1,hx.cellSome (hc k hk).2.1,hx.cellSome (hc k hk).2.2⟩⟩⟩
theorem Fixs.at {w:World} {a:Option Addr} {n cap:Nat} {l:List (Int × Int × Int)} (h:Fixs w a n cap l) {k:Nat} (hk:k<n) :
 ∃ b off x y z,a=some ⟨b,off,none⟩/\l[k]?.getD (0,0,0)=(x,y,z)/\w.cell? ⟨b,off+k*3,none⟩=some (.int .i64 x)/\w.cell? ⟨b,off+k*3+1,none⟩=some (.int .i64 y)/\w.cell? ⟨b,off+k*3+2,none⟩=some (.int .i64 z) :=
 let ⟨b,off,e,hc⟩:=h.cell k hk;⟨b,off,_,_,_,e,rfl,(hc k hk).1,(hc k hk).2.1,(hc k hk).2.2⟩
theorem ep {l:List (Int × Int × Int)} {k:Nat} (h:k<l.length):l.take (k+1)=l.take k++[l[k]?.getD (0,0,0)]:=by
 rw [List.take_succ_eq_append_getElem h];simp [h]
def fixC (p:Int × Int × Int):List Value:=[.int .i64 p.1,.int .i64 p.2.1,.int .i64 p.2.2]
def fixCells (l:List (Int × Int × Int)):Array Value:=(l.flatMap fixC).toArray
theorem fixC_at:∀ (l:List (Int × Int × Int)) (k:Nat),k<l.length->(l.flatMap fixC)[k*3]?=some (.int .i64 (l[k]?.getD (0,0,0)).1)/\(l.flatMap fixC)[k*3+1]?=some (.int .i64 (l[k]?.getD (0,0,0)).2.1)/\(l.flatMap fixC)[k*3+2]?=some (.int .i64 (l[k]?.getD (0,0,0)).2.2)
 | [],k,h=>absurd h (by simp)
 | p :: l,0,_=>by simp [fixC]
 | p :: l,k+1,h=>by
   have:=fixC_at l k (by simpa using h);rw [show (k+1)*3=k*3+1+1+1 by omega]
   simpa [fixC] using this
theorem fixC_set:∀ (l:List (Int × Int × Int)) (k:Nat) (x y z:Int),k<l.length->(((l.flatMap fixC).set (k*3) (.int .i64 x)).set (k*3+1) (.int .i64 y)).set (k*3+2) (.int .i64 z)=(l.set k (x,y,z)).flatMap fixC
 | [],k,_,_,_,h=>absurd h (by simp)
 | p :: l,0,_,_,_,_=>by simp [fixC]
 | p :: l,k+1,x,y,z,h=>by
   have:=fixC_set l k x y z (by simpa using h);rw [show (k+1)*3=k*3+1+1+1 by omega]
   simpa [fixC] using this
def FRow (w:World) (b:Nat) (t:TypeId) (l:List (Int × Int × Int)):Prop:=w.heap[b]?=some (.cells (fixCells l) t (0,0))
def hasX (l:List (Int × Int × Int)) (s:Int):Bool:=l.any fun f=>f.1 == s
theorem pu {l:List (Int × Int × Int)} {k:Nat} {s:Int} (h:k<l.length):hasX (l.take (k+1)) s=(hasX (l.take k) s||(l[k]?.getD (0,0,0)).1 == s):=by
 rw [ep h];simp [hasX]
theorem hasX_at {l:List (Int × Int × Int)} {k:Nat} {s:Int} (h:k<l.length) (e:(l[k]?.getD (0,0,0)).1=s):hasX l s=true:=by
 unfold hasX;rw [List.any_eq_true];exact ⟨l[k],List.getElem_mem h,by rw [List.getElem?_eq_getElem h] at e;simpa using e⟩
set_option maxHeartbeats 2000000 in
theorem jr {w:World} {a:Option Addr} {n cap:Nat} {l:List (Int × Int × Int)} (h:Fixs w a n cap l) (s:Int) :
 Calls Tryz.prog 187 #[.slice a n cap,.int .i64 s] w fun e w'=>e=.returned (.bool (hasX l s))/\w=w':=by
 have hcap:=h.hcap;have hmax:=h.hmax;have HL:=ae h.hlen;have HF:=ae h;clear h;go_enter Tryz.func187,Tryz.ntmps187
 go_wp2_with fail
 go_loop [5] (fun ii=>∃ k:Nat,k<=n/\ii=.int .i64 (k:Int)/\Hid (hasX (l.take k) s=false)) (fun ii=>n-(intOf ii).toNat)
 case atStart=>exact ⟨0,Nat.zero_le _,rfl,ae rfl⟩
 case round =>
  obtain ⟨k,hk,rfl,HH⟩:=hrel;by_cases hlt:k<n
  ·obtain ⟨b,off,x,y,z,rfl,hx,hc,hc1,hc2⟩:=HF.out.at hlt;by_cases hxs:x=s
   ·have HT:=ae (hasX_at (l:=l) (k:=k) (s:=s) (by rw [HL.out];exact hlt) (by rw [hx];exact hxs));subst hxs;clear hx;go_wp2_with fail;go_ret;exact ⟨ag HT.out.symm,rfl⟩
   ·have hxb:(x == s)=false:=by simpa using hxs
    have HT:=ae (show hasX (l.take (k+1)) s=false by rw [pu (by rw [HL.out];exact hlt),HH.out,hx];simpa using hxs);clear hx;go_wp2_with fail
    go_round
    case rel=>exact ⟨k+1,by omega,by go_num,HT⟩
    case measure=>simp [intOf];omega
  ·have HT:=ae (show l.take k=l from List.take_of_length_le (by rw [HL.out];omega));go_wp2_with fail;go_ret;exact ⟨ag (by have:=HH.out;rw [HT.out] at this;exact this.symm),rfl⟩
def aN (L:List (Int × Int × Int)) (m:Nat):List Int:=(seqI 1 m).filter fun s=>!hasX L s
theorem oy (L:List (Int × Int × Int)) (m:Nat):aN L (m+1)=aN L m++(if hasX L ((m:Int)+1)=true then [] else [(m:Int)+1]):=by
 unfold aN seqI;rw [List.range_succ,List.map_append,List.filter_append]
 congr 1
 rw [List.map_singleton,show (1:Int)+(m:Int)=(m:Int)+1 by omega];simp only [List.filter_cons,List.filter_nil];cases hasX L ((m:Int)+1) <;> rfl
theorem dh (L:List (Int × Int × Int)) (m:Nat):(aN L m).length<=m:=by
 unfold aN;exact Nat.le_trans (List.length_filter_le _ _) (by simp [seqI])
theorem gh {L:List (Int × Int × Int)} {m:Nat} {s:Int} (h:s ∈ aN L m):1<=s/\s<=m/\hasX L s=false:=by
 unfold aN seqI at h;simp only [List.mem_filter,List.mem_map,List.mem_range,Bool.not_eq_true'] at h;obtain ⟨⟨i,hi,rfl⟩,h2⟩:=h;exact ⟨by omega,by omega,h2⟩
set_option maxHeartbeats 4000000 in
theorem ix {w:World} (x:Int) (a:Option Addr) (n cap:Nat) (hn:n<=1000) {fa:Option Addr} {fn fcap:Nat} {L:List (Int × Int × Int)} (h:Fixs w fa fn fcap L) :
 Calls Tryz.prog 125 #[pair x a n cap,.slice fa fn fcap] w fun e w'=>(∃ v,e=.returned v/\OwnI w' w.heap.size v (aN L (n-2)))/\Ext w w':=by
 obtain ⟨m,hm⟩:∃ m,m=n-2:=⟨_,rfl⟩;have HM:=ae hm;have HF:=ae h;have HX0:=ae (Ext.alloc w (.cells #[.int .i64 x,.slice a n cap] 29));have HO:=ae (OwnI.madeS (w.alloc (.cells #[.int .i64 x,.slice a n cap] 29)) (w.heap.size+1) (w.heap.size+1) (by simp) (by simp));rw [<-hm];clear h hm;go_enter Tryz.func125,Tryz.ntmps125
 go_wp2_with fail
 go_loopg [5,6] m (fun gk oo ii wr=>∃ (k:Nat) (a1:Option Addr) (n1 p1:Nat),Hid (gk+k=m)/\ii=.int .i64 ((k:Int)+1)/\oo=.slice a1 n1 p1/\Hid (OwnI wr (w.heap.size+1) (.slice a1 n1 p1) (aN L k))/\Hid (Ext (w.alloc (.cells #[.int .i64 x,.slice a n cap] 29)) wr))
 case atStart=>exact ⟨0,_,_,_,ae (by omega),by simp,rfl,HO,ae (Ext.alloc _ _)⟩
 case round =>
  obtain ⟨g1,h_g1⟩:∃ x,x=gk:=⟨_,rfl⟩;subst h_g1;obtain ⟨wr1,h_wr1⟩:∃ x,x=wr:=⟨_,rfl⟩;subst h_wr1;obtain ⟨k,a1,n1,p1,HK,rfl,rfl,HO1,HX⟩:=hrel;have hsz:=HX.out.size;rw [World.size_alloc] at hsz;have hc:wr1.cell? ⟨w.heap.size,1,none⟩=some (.slice a n cap):=HX.out.cellSome (by simp);have hkm:k<=m:=by have:=HK.out;omega
  have hm1000:m<=1000:=by have:=HM.out;omega
  by_cases hlt:k<m
  ·have hn1:(k:Int)+1<(n:Int)-1:=by have:=HM.out;omega
   have HL:=ae (dh L k);have HC:=ae (jr ((HF.out.ext HX0.out).ext HX.out) ((k:Int)+1));have HS:=ae (oy L k);cases hb:hasX L ((k:Int)+1)
   ·rw [hb] at HC HS;clear hb
    go_wp2_with (first
     | (go_at_call 187;refine HC.out.mono ?_;rintro e w' ⟨rfl,rfl⟩)
     | (at_builtin;refine bw rfl _ _ rfl (w.heap.size+1) (.slice a1 n1 p1) _ rfl (HO1.out.ext (Ext.alloc _ _)) _ 1 _ [(k:Int)+1] rfl (Ints.oneS _ _ _ _ (by simp)) (by have:=HL.out;omega) (by simp;omega) ?_;intro v5 w5 ho hg hnear;obtain ⟨a5,n5,p5,rfl,HN5⟩:=ho.var;have HO5:=ae ho;have X5:=ae (aq (HX.out.trans (Ext.alloc _ _)) hg (fun j hj=>by have:=(HO1.out.lt j hj);simp;omega));clear ho hg hnear))
    go_roundg (g1-1)
    case measure=>have:=HK.out;omega
    case rel=>exact ⟨k+1,a5,n5,p5,ae (by have:=HK.out;omega),by go_num,rfl,ae (by have:=HO5.out;rw [HS.out];exact this),X5⟩
   ·rw [hb] at HC HS;clear hb
    go_wp2_with (first
     | (go_at_call 187;refine HC.out.mono ?_;rintro e w' ⟨rfl,rfl⟩))
    go_roundg (g1-1)
    case measure=>have:=HK.out;omega
    case rel=>exact ⟨k+1,a1,n1,p1,ae (by have:=HK.out;omega),by go_num,rfl,ae (by have:=HO1.out;rw [HS.out];simpa using this),HX⟩
  ·have hkn:k=m:=by have:=HK.out;omega
   have hnlt:¬ (k:Int)+1<(n:Int)-1:=by have:=HM.out;omega
   subst hkn;go_wp2_with fail;go_ret;exact ⟨⟨_,rfl,HO1.out.mono (Nat.le_succ _)⟩,HX0.out.trans HX.out⟩
end Go.Proofs.YthjjfkeacobikaaGreat
