import Derived.Test.YthjjfkeacobikaaGreatPuAllG19
import Derived.Test.YthjjfkeacobikaaGreatPuAllG13
import Derived.Test.YthjjfkeacobikaaGreatPuAllG7
import Derived.Test.YthjjfkeacobikaaGreatPuAllG4
import Derived.Test.YthjjfkeacobikaaGreatPuAllG18
import Derived.Test.YthjjfkeacobikaaGreatPuAllG3
set_option linter.unusedVariables false
set_option linter.unusedSimpArgs false
namespace Go.Proofs.YthjjfkeacobikaaGreat
set_option maxRecDepth 100000
open Go.RowKit
section
variable {t:TypeId} {r b:Nat} {x:Int} {a:Option Addr} {n c:Nat}
theorem Bx.ext {f g:Bx} (h:∀ k,f k=g k):f=g:=funext h
end
def Few (l:List Int):Prop:=∀ x ∈ l,0<=x/\x<=100
def FewB (l:List Int):Prop:=∀ x ∈ l,-1<=x/\x<=101
end Go.Proofs.YthjjfkeacobikaaGreat
namespace Go.Proofs.YthjjfkeacobikaaGreat
set_option maxRecDepth 100000
open Go.RowKit
theorem qw (x y:Int) (s:Value) (hs:∀ y:Int,s ≠ Value.int .u8 y):∀ (j:Nat) (z:Int),(#[Value.int .i64 x,.int .i64 y,s]:Array Value)[j]? ≠ some (Value.int .u8 z):=fun j z e=>by
 match j with
 | 0=>simp at e
 | 1=>simp at e
 | 2=>exact hs z (by simpa using e)
 | j+3=>simp at e
section
variable {t:TypeId} {r b:Nat} {x y:Int} {a:Option Addr} {n c:Nat}
end
section
variable {w wr w':World} {cb b:Nat} {f:Bx} {x0 x1 x2:Value} {t:TypeId}
theorem Bxs.t0 (h:Bxs w wr cb f) (hf:f b=some (#[x0,x1,x2],t)):wr.cell? ⟨b,0,none⟩=some x0:=h.cell hf 0
theorem Bxs.t1 (h:Bxs w wr cb f) (hf:f b=some (#[x0,x1,x2],t)):wr.cell? ⟨b,1,none⟩=some x1:=h.cell hf 1
theorem Bxs.t2 (h:Bxs w wr cb f) (hf:f b=some (#[x0,x1,x2],t)):wr.cell? ⟨b,2,none⟩=some x2:=h.cell hf 2
theorem Bxs.put3 (h:Bxs w wr cb f) (hf:f b=some (#[x0,x1,x2],t)) (v0 v1 v2:Value) (h0:∀ y:Int,v0 ≠ Value.int .u8 y) (h1:∀ y:Int,v1 ≠ Value.int .u8 y) (h2:∀ y:Int,v2 ≠ Value.int .u8 y) :
 Bxs w (((wr.setCell ⟨b,0,none⟩ v0).setCell ⟨b,1,none⟩ v1).setCell ⟨b,2,none⟩ v2) cb (f.upd b (#[v0,v1,v2],t)):=by
 have h3:=((h.put hf 0 v0 h0).put (Bx.same _ _ _) 1 v1 h1).put (Bx.same _ _ _) 2 v2 h2;refine ⟨h3.cur,h3.grown,fun k p hk=>h3.box k p ?_,fun k p hk=>h3.dry k p ?_⟩
 all_goals
  by_cases e:k=b
  ·subst e;rw [Bx.same] at hk ⊢;rw [<-hk];rfl
  ·rw [Bx.other _ _ e] at hk;rw [Bx.other _ _ e,Bx.other _ _ e,Bx.other _ _ e];exact hk
end
def Wide (B:Nat) (M:List (List Int)):Prop:=∀ l ∈ M,l.length=B
end Go.Proofs.YthjjfkeacobikaaGreat
namespace Go.Proofs.YthjjfkeacobikaaGreat
set_option maxRecDepth 100000
open Go.RowKit
def dS (p:Int) (V:List Int):Int:=if bL p V=true then V[V.length-1]?.getD 0 else 0
theorem kT {p:Int} {V:List Int} (h:bL p V=false):dS p V=0:=by unfold dS;rw [h];rfl
theorem kU {p:Int} {V:List Int} (h:bL p V=true):dS p V=V[V.length-1]?.getD 0:=by unfold dS;rw [if_pos h]
set_option maxHeartbeats 1000000 in
theorem mB {w:World} {p:Int} {a:Option Addr} {n cap:Nat} {V:List Int} (h:Ints w a n cap V) :
 Calls Tryz.prog 87 #[pair p a n cap] w fun e w'=>e=.returned (.int .i64 (dS p V))/\Ext w w':=by
 have hi:=h.alloc (.cells #[.int .i64 p,.slice a n cap] 29);have HX:=ae (Ext.alloc w (.cells #[.int .i64 p,.slice a n cap] 29));have HL:=ae h.hlen;have HI:=ae hi;have HV:=ae (fj (p:=p) hi);clear h hi;cases hv:bL p V
 ·rw [hv] at HV;have HG:=ae (kT hv);clear hv;go_enter Tryz.func87,Tryz.ntmps87
  go_wp2_with fail;refine HV.out.mono ?_;rintro e w1 ⟨rfl,hx⟩;have X1:=ae (HX.out.trans hx);clear hx;go_wp2_with fail;go_ret;exact ⟨aM HG.out.symm,X1.out⟩
 ·rw [hv] at HV;obtain ⟨q,rfl,h1,h5,hlen,_,hbd⟩:=dG hv;have hN:=eX q h5;obtain ⟨u,rfl⟩:∃ u,n=u+1:=⟨n-1,by have:=HL.out;omega⟩;have HG:=ae (show dS (q:Int) V=V[u]?.getD 0 by rw [kU hv,HL.out];rfl);have hu32:u<=31:=by have:=HL.out;omega
  clear hv hlen hbd hN;go_enter Tryz.func87,Tryz.ntmps87
  go_wp2_with fail;refine HV.out.mono ?_;rintro e w1 ⟨rfl,hx⟩;have c1:w1.cell? ⟨w.heap.size,1,none⟩=some (.slice a (u+1) cap):=hx.cellSome (by simp);obtain ⟨b,off,rfl,hc⟩:=(HI.out.ext hx).at (show u<u+1 by omega);have hlen1:((u+1:Nat):Int)-1=(u:Int):=by omega
  have X1:=ae (HX.out.trans hx);clear hx;go_wp2_with fail;go_ret;exact ⟨aM HG.out.symm,X1.out⟩
end Go.Proofs.YthjjfkeacobikaaGreat
