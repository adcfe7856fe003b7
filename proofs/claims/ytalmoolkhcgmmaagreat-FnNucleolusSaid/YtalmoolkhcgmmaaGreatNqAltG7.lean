import Derived.Test.YtalmoolkhcgmmaaGreatNqAltG3
import Derived.Test.YtalmoolkhcgmmaaGreatNqAltG5
import Derived.Test.YtalmoolkhcgmmaaGreatNqAltG6
import Derived.Deep.DeepCutAuto
import Derived.Test.YtalmoolkhcgmmaaGreatNqAltG4
set_option linter.unusedVariables false
set_option linter.unusedSimpArgs false
namespace Go.Proofs.YtalmoolkhcgmmaaGreat
set_option maxHeartbeats 16000000
open Go.RowKit
def Tells(P:Program)(w:World)(fid:FuncId)(ca:Array Value)(m:Nat)(f:Nat->Int):Prop :=
 ∀(s:Nat) (w1:World),s<m->Ext w w1->Calls P fid (#[.int .i64 (s:Int)]++ca) w1 fun e w2=>e=.returned (.int .i64 (f s))/\Ext w1 w2
set_option maxRecDepth 100000
def Ls(s:Nat):Nat:=(List.range 5).countP fun k=>bit (s:Int) k
theorem Pa(s:Nat):Ls s<=5:=by unfold Ls;exact Nat.le_trans List.countP_le_length e7
theorem wG:∀n:Fin 6,∀s:Fin 32,∀k:Fin 5,s.val<cN n.val->k.val<n.val->bit ((s.val:Nat):Int) k.val=false->s.val+2^k.val<cN n.val:=by decide +kernel
theorem VI{n s k:Nat}(hn:n<=5)(hs:s<cN n)(hk:k<n)(h:bit (s:Int) k=false):s+2^k<cN n :=
 wG ⟨n,by omega⟩ ⟨s,by have:=cu n hn;omega⟩ ⟨k,by omega⟩ hs hk h
def EY(wt:Nat->Int)(V:j9)(k:Nat):Nat->Int
 | 0=>0
 | m+1=>EY wt V k m+(if bit (m:Int) k=true then 0 else wt (Ls m)*(V[m+2^k]?.getD 0-V[m]?.getD 0))
def T3(wt:Nat->Int)(V:j9)(d:Int)(k:Nat):k5:=(aL (EY wt V k V.length) d).1
def FN(wt:Nat->Int)(V:j9)(d:Int)(m:Nat):j6:=(List.range m).map (T3 wt V d)
theorem uI(wt:Nat->Int)(V:j9)(d:Int):FN wt V d 0=[]:=rfl
theorem uH(wt:Nat->Int)(V:j9)(d:Int)(m:Nat):FN wt V d (m+1)=FN wt V d m++[T3 wt V d m]:=by simp[FN,List.range_succ]
theorem NC(wt:Nat->Int)(V:j9)(d:Int)(m:Nat):(FN wt V d m).length=m:=by simp[FN]
theorem dM{V:j9}(G:∀x∈V,-500<=x/\x<=500)(k:Nat):-500<=V[k]?.getD 0/\V[k]?.getD 0<=500:=by
 by_cases h:k<V.length
 ·have:=G _ (List.getElem_mem h);simpa[h]using this
 ·simp[List.getElem?_eq_none (by omega:V.length<=k)]
theorem KE{x y:Int}(h1:-1000<=x)(h2:x<=1000)(h3:-1000<=y)(h4:y<=1000):-1000000<=x*y/\x*y<=1000000:=by
 have h:(x*y).natAbs<=1000*1000:=by rw[Int.natAbs_mul];exact Nat.mul_le_mul b9 b9
 omega
theorem sG{wt:Nat->Int}{V:j9}(G:∀x∈V,-500<=x/\x<=500)(hw:∀i,-1000<=wt i/\wt i<=1000)(k:Nat):∀m:Nat,-(1000000*m:Int)<=EY wt V k m/\EY wt V k m<=1000000*m
 | 0=>by simp[EY]
 | m+1=>by
   have ih:=sG G hw k m;unfold EY;have h1:=dM G (m+2^k);have h2:=dM G m;have h3:=hw (Ls m);have h4:=KE h3.1 h3.2 (y:=V[m+2^k]?.getD 0-V[m]?.getD 0) b9 b9
   split<;>omega
theorem iI{w:World}{cb:Nat}(h:Aa w cb)(n:Int)(hn:1<=n):
 Calls Tryz.prog 14 #[.pointer (some ⟨cb,0,none⟩),.int .i64 n] w fun e w'=>(∃b,e=.returned (.bool b))/\Aa w' cb/\w.grownBy w' (some cb):=by
 have H:=ae (eO h n hn);clear h;go_enter Tryz.func14,Tryz.ntmps14
 go_wp2_with fail;refine H.o.mono ?_;rintro e w1 ⟨⟨x,rfl,wI,wO⟩,hc,hg⟩;have HC:=ae hc;have HG:=ae hg;clear hc hg;by_cases hx:x=0
 ·subst hx;go_wp2_with fail;go_ret;exact⟨⟨_,rfl⟩,HC.o,HG.o⟩
 ·have Gq:(x == 0)=false:=by simp[hx]
  go_wp2_with fail;go_ret;exact⟨⟨_,rfl⟩,HC.o,HG.o⟩
def mR(r4 b5:Nat)(x:Int)(a:j8)(n c:Nat):Bx:=(Bx.nil.upd r4 (#[.int .i64 0,.slice none 0 0],26)).upd b5 (#[.int .i64 x,.slice a n c],26)
theorem Pp(I G:Nat)(x:Int)(a:j8)(n c:Nat):mR I G x a n c G=some (#[.int .i64 x,.slice a n c],26):=Bx.same _ _ _
theorem Pq{G I:Nat}(h:G≠I)(x:Int)(a:j8)(n c:Nat):mR G I x a n c G=some (#[.int .i64 0,.slice none 0 0],26):=(Bx.other _ _ h).trans (Bx.same _ _ _)
theorem Pr{G I k:Nat}(h:k≠G)(h':k≠I)(x:Int)(a:j8)(n c:Nat):mR G I x a n c k=none:=(Bx.other _ _ h').trans (Bx.other _ _ h)
end Go.Proofs.YtalmoolkhcgmmaaGreat
