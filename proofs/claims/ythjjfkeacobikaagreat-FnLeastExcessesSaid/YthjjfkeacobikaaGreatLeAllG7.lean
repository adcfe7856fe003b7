import Derived.Test.YthjjfkeacobikaaGreatLeAllG3
import Derived.Test.YthjjfkeacobikaaGreatLeAllG5
import Derived.Test.YthjjfkeacobikaaGreatLeAllG6
import Derived.Deep.DeepCutAuto
import Derived.Test.YthjjfkeacobikaaGreatLeAllG4
set_option linter.unusedVariables false
set_option linter.unusedSimpArgs false
namespace Go.Proofs.YthjjfkeacobikaaGreat
open Go.RowKit
def Tells (P:Program) (w:World) (fid:FuncId) (ca:Array Value) (m:Nat) (f:Nat->Int):Prop :=
 ∀ (s:Nat) (w1:World),s<m->Ext w w1->Calls P fid (#[.int .i64 (s:Int)]++ca) w1 fun e w2=>e=.returned (.int .i64 (f s))/\Ext w1 w2
set_option maxRecDepth 100000
def popN (s:Nat):Nat:=(List.range 5).countP fun k=>bit (s:Int) k
theorem popN_le (s:Nat):popN s<=5:=by unfold popN;exact Nat.le_trans List.countP_le_length (by simp)
theorem tR:∀ n:Fin 6,∀ s:Fin 32,∀ k:Fin 5,s.val<cN n.val->k.val<n.val->bit ((s.val:Nat):Int) k.val=false->s.val+2 ^ k.val<cN n.val:=by decide +kernel
theorem up_lt {n s k:Nat} (hn:n<=5) (hs:s<cN n) (hk:k<n) (h:bit (s:Int) k=false):s+2 ^ k<cN n :=
 tR ⟨n,by omega⟩ ⟨s,by have:=cX n hn;omega⟩ ⟨k,by omega⟩ hs hk h
def avgS (wt:Nat->Int) (V:List Int) (k:Nat):Nat->Int
 | 0=>0
 | m+1=>avgS wt V k m+(if bit (m:Int) k=true then 0 else wt (popN m)*(V[m+2 ^ k]?.getD 0-V[m]?.getD 0))
def avgR (wt:Nat->Int) (V:List Int) (d:Int) (k:Nat):Int × Int:=(aL (avgS wt V k V.length) d).1
def avgT (wt:Nat->Int) (V:List Int) (d:Int) (m:Nat):List (Int × Int):=(List.range m).map (avgR wt V d)
theorem rR (wt:Nat->Int) (V:List Int) (d:Int):avgT wt V d 0=[]:=rfl
theorem rQ (wt:Nat->Int) (V:List Int) (d:Int) (m:Nat):avgT wt V d (m+1)=avgT wt V d m++[avgR wt V d m]:=by simp [avgT,List.range_succ]
theorem avgT_len (wt:Nat->Int) (V:List Int) (d:Int) (m:Nat):(avgT wt V d m).length=m:=by simp [avgT]
theorem ek {V:List Int} (hV:∀ x ∈ V,-500<=x/\x<=500) (k:Nat):-500<=V[k]?.getD 0/\V[k]?.getD 0<=500:=by
 by_cases h:k<V.length
 ·have:=hV _ (List.getElem_mem h);simpa [h] using this
 ·simp [List.getElem?_eq_none (by omega:V.length<=k)]
theorem wt_bd {x y:Int} (h1:-1000<=x) (h2:x<=1000) (h3:-1000<=y) (h4:y<=1000):-1000000<=x*y/\x*y<=1000000:=by
 have h:(x*y).natAbs<=1000*1000:=by rw [Int.natAbs_mul];exact Nat.mul_le_mul (by omega) (by omega)
 omega
theorem pZ {wt:Nat->Int} {V:List Int} (hV:∀ x ∈ V,-500<=x/\x<=500) (hw:∀ i,-1000<=wt i/\wt i<=1000) (k:Nat):∀ m:Nat,-(1000000*m:Int)<=avgS wt V k m/\avgS wt V k m<=1000000*m
 | 0=>by simp [avgS]
 | m+1=>by
   have ih:=pZ hV hw k m;unfold avgS;have h1:=ek hV (m+2 ^ k);have h2:=ek hV m;have h3:=hw (popN m);have h4:=wt_bd h3.1 h3.2 (y:=V[m+2 ^ k]?.getD 0-V[m]?.getD 0) (by omega) (by omega)
   split <;> omega
set_option maxHeartbeats 1000000 in
theorem iY {w:World} {cb:Nat} (h:Cur w cb) (n:Int) (hn:1<=n) :
 Calls Tryz.prog 93 #[.pointer (some ⟨cb,0,none⟩),.int .i64 n] w fun e w'=>(∃ b,e=.returned (.bool b))/\Cur w' cb/\w.grownBy w' (some cb):=by
 have H:=ae (en h n hn);clear h;go_enter Tryz.func93,Tryz.ntmps93
 go_wp2_with fail;refine H.out.mono ?_;rintro e w1 ⟨⟨x,rfl,hx0,hx1⟩,hc,hg⟩;have HC:=ae hc;have HG:=ae hg;clear hc hg;by_cases hx:x=0
 ·subst hx;go_wp2_with fail;go_ret;exact ⟨⟨_,rfl⟩,HC.out,HG.out⟩
 ·have hx':(x == 0)=false:=by simp [hx]
  go_wp2_with fail;go_ret;exact ⟨⟨_,rfl⟩,HC.out,HG.out⟩
def lA (r4 b5:Nat) (x:Int) (a:Option Addr) (n c:Nat):Bx:=(Bx.nil.upd r4 (#[.int .i64 0,.slice none 0 0],29)).upd b5 (#[.int .i64 x,.slice a n c],29)
theorem mateBx5 (r4 b5:Nat) (x:Int) (a:Option Addr) (n c:Nat):lA r4 b5 x a n c b5=some (#[.int .i64 x,.slice a n c],29):=Bx.same _ _ _
theorem mateBx4 {r4 b5:Nat} (h:r4 ≠ b5) (x:Int) (a:Option Addr) (n c:Nat):lA r4 b5 x a n c r4=some (#[.int .i64 0,.slice none 0 0],29):=(Bx.other _ _ h).trans (Bx.same _ _ _)
theorem mateBx0 {r4 b5 k:Nat} (h:k ≠ r4) (h':k ≠ b5) (x:Int) (a:Option Addr) (n c:Nat):lA r4 b5 x a n c k=none:=(Bx.other _ _ h').trans (Bx.other _ _ h)
end Go.Proofs.YthjjfkeacobikaaGreat
