import Derived.Test.YtdadoignenffgaaGreatDoorSvAllG14
import Derived.Test.YtdadoignenffgaaGreatDoorSvAllG45
import Derived.Test.YtdadoignenffgaaGreatDoorSvAllG5
set_option linter.unusedVariables false
set_option linter.unusedSimpArgs false
namespace Go.Proofs.YtdadoignenffgaaGreatDoor
variable{B:j7}{base:j8}{cs:j4}{n i:Nat}
def cY(B:j7)(base:j8)(cs:j4)(n i:Nat):j8:=yz (B[i]?.getD 0) (vD base (cs[n+i]?.getD (0,0))).1
def yZ(A:j5)(B:j7)(C:j4):Option yu :=
 (aO (dI C.length B.length) 1000 (bD A B C.length)).bind fun p1 =>
   if(p1.costs[C.length+B.length]?.getD (0,0)).1<0 then
    some ⟨2,[],(List.range B.length).map (cY B (1,1) p1.costs C.length),[],(0,0),1000-p1.left⟩
   else(aY C.length (p1.t,p1.left) B.length).bind fun s=>(aO (bY C B.length) s.2 s.1).map fun p2 =>
    if 0<=p2.ve then⟨3,(xx p2.t).take C.length,[],xp p2.t C.length p2.ve.toNat B.length,(0,0),1000-p2.left⟩
    else⟨1,(xx p2.t).take C.length,(List.range B.length).map (cY B (0,1) p2.costs C.length),[],uU (p2.costs[C.length+B.length]?.getD (0,0)),1000-p2.left⟩
def ev(A:j5)(B:j7)(C:j4):yu :=
 if vG A B C=true then
  match yZ A B C with
  | none=>aM 4
  | some r=>if aG aX A B C r=true then r else aM 4
 else aM 0
theorem si{x:j8}(h:eN B base cs n i=some x):cY B base cs n i=x:=by
 unfold eN at h
 split at h
 ·exact Option.some.inj h
 ·cases h
theorem om{a b:j8}(h:(vD a b).2=false):(vD a b).1=(0,0):=by
 unfold vD at h⊢
 split
 ·next hv=>rw[if_pos hv]at h;exact Jc h
 ·rfl
theorem sh(h:eN B base cs n i=none):o9 (cY B base cs n i)=false:=by
 unfold eN at h
 split at h
 ·cases h
 ·next hf =>
  unfold cY;rw[om (by simpa using hf)];unfold yz uU
  split<;>rfl
theorem tJ(hv:o9 (cs[n+i]?.getD (0,0))=true):cY B (0,1) cs n i=dE B cs n i:=by
 unfold cY dE;rw[rl (x:=0) (c:=uU (cs[n+i]?.getD (0,0))) e7 e7 hv (by rw[dh];exact hv) (by rw[fg];grind)]
theorem lW{f:Nat->Option (Int×Int)}:∀{k:Nat},runT f k=none->∃i,i<k/\f i=none
 | 0,h=>by cases h
 | k+1,h=>by
   cases hk:runT f k with
   | none=>obtain⟨i,hi,hf⟩:=lW hk;exact⟨i,by omega,hf⟩
   | some l =>
     cases hf:f k with
     | none=>exact⟨k,by omega,hf⟩
     | some x=>rw[ec hk hf]at h;cases h
theorem Mr{A:j5}{C:j4}(ok:vG A B C=true):
 yZ A B C=xF A B C∨(xF A B C=none/\∃r,yZ A B C=some r/\aG aX A B C r=false):=by
 obtain⟨h1,h2,h3,h4,h5,h6⟩:=eP ok;unfold yZ xF;cases e1:aO (dI C.length B.length) 1000 (bD A B C.length)with
 | none=>exact Or.inl rfl
 | some p1 =>
   simp only[Option.bind_some];by_cases Aa:(p1.costs[C.length+B.length]?.getD (0,0)).1<0
   ·rw[if_pos Aa,if_pos Aa];cases hr:runT (eN B (1,1) p1.costs C.length) B.length with
    | some Y =>
      left
      have hY:(List.range B.length).map (cY B (1,1) p1.costs C.length)=Y:=by
       have:=pI (f:=eN B (1,1) p1.costs C.length) (F:=cY B (1,1) p1.costs C.length) (k:=B.length) fun i hi=>by
        have:=jN hr i hi;rw[this,si this]
       rw[hr]at this;exact(Option.some.inj this).symm
      rw[hY];rfl
    | none =>
      right
      refine⟨rfl,_,rfl,?_⟩;obtain⟨i,hi,hf⟩:=lW hr;have hv:=sh hf;unfold aG;rw[if_neg e8,if_pos rfl];simp only;rw[Bool.and_eq_false_iff]
      right
      unfold jM;rw[Bool.and_eq_false_iff]
      right
      cases hd:vg ((List.range B.length).map (cY B (1,1) p1.costs C.length)) (ar B)with
      | none=>rfl
      | some v =>
        exfalso
        have:=((dz hd).2.2.1 i (by simpa using hi)).1;rw[List.getElem?_map,List.getElem?_range hi,Option.map_some,Option.getD_some,hv]at this;cases this
   ·rw[if_neg Aa,if_neg Aa]
    left
    cases e2:aY C.length (p1.t,p1.left) B.length with
    | none=>rfl
    | some s =>
      simp only[Option.bind_some];cases e3:aO (bY C B.length) s.2 s.1 with
      | none=>rfl
      | some p2 =>
        simp only[Option.map_some]
        split
        ·rfl
        ·have i1:=(du (fR ok) e1).1;have i2:=(eM (s:=(p1.t,p1.left)) i1 e2).1;obtain⟨i3,e4,_⟩:=du i2 e3;obtain⟨c1,c2⟩:=dW i3 e4
         congr 2
         apply List.map_congr_left
         intro i hi;exact tJ (c1.2 _ (j1 (List.mem_range.1 hi)))
theorem uN(A:j5)(B:j7)(C:j4):ev A B C=be aX A B C:=by
 unfold ev be
 split
 ·next ok =>
  rcases Mr ok with h|⟨h1,r,h2,h3⟩
  ·rw[h];cases xF A B C<;>rfl
  ·rw[h1,h2];simp only;rw[h3];rfl
 ·rfl
theorem mb{A:j5}{C:j4}(hn:vG A B C=true->∀j,j<C.length->Gt A C j):be am A B C=ev A B C:=by rw[uN];exact IW hn
open Go.RowKit
def cq(q n:Nat):j5:=xz q (yA 1 (n-1))
def cL(q:Nat):j7:=List.replicate q 1
def bg(V:j7):j4:=(V.drop 1).map fun v=>(-v,1)
theorem tE{p:Int}{V:j7}(h:aH p V=true)(A:j5)(B:j7):be am A B (bg V)=ev A B (bg V):=by
 obtain⟨q,rfl,_,_,_,_,hb⟩:=bF h;refine mb fun _ j hj=>Or.inl ⟨-((V.drop 1)[j]?.getD 0),?_,?_⟩
 ·unfold bg at hj⊢;rw[List.length_map]at hj;rw[List.getElem?_map,List.getElem?_eq_getElem hj];rfl
 ·unfold bg at hj;rw[List.length_map]at hj;rw[List.getElem?_eq_getElem hj,Option.getD_some];have:=hb _ (List.mem_of_mem_drop (List.getElem_mem hj));omega
def dC(g:Int)(r:yu):(Int×Int)×Bool:=we (g,1) r.value
def EM(r:yu):j4:=r.Y.map uU
def gj(g:Int)(r:yu):(Int×Int)×Bool:=we ((EM r)[(EM r).length-1]?.getD (0,0)) (dC g r).1
def Rv(g:Int)(r:yu):j4:=(EM r).set ((EM r).length-1) (gj g r).1
theorem uM{a x b c:Int}(hb:0<b)(hc:0<c)(h:a*c=x*b):a<0↔x<0:=by
 constructor
 ·intro ha
  rcases Int.lt_or_le x 0 with h1|h1
  ·exact h1
  ·have h2:=Int.mul_neg_of_neg_of_pos ha hc;have h3:=Int.mul_nonneg h1 (Int.le_of_lt hb);omega
 ·intro hx
  rcases Int.lt_or_le a 0 with h1|h1
  ·exact h1
  ·have h2:=Int.mul_neg_of_neg_of_pos hx hb;have h3:=Int.mul_nonneg h1 (Int.le_of_lt hc);omega
theorem th{g:Int}{r:yu}(h:(dC g r).2=true):0<vP (uU r.value) (g,1)↔(dC g r).1.1<0:=by
 unfold dC at h⊢;obtain⟨h1,h2,h3,_⟩:=jT h;have hb:=aL h2;have hs:=aL h3;have hn:o9 (uU r.value)=true:=by rw[dh];exact h2
 have he:we (g,1) r.value=az (g*r.value.2+r.value.1*1) (1*r.value.2):=by unfold we;rw[h1,h2];rfl
 rw[he]at h hs⊢;have hf:=(iX e7 h);have hc:vP (uU r.value) (g,1)=if -r.value.1*1<g*r.value.2 then -1 else if g*r.value.2 < -r.value.1*1 then 1 else 0:=by unfold vP;rw[hn,h1];rfl
 rw[hc];have E:=uM (a:=(az (g*r.value.2+r.value.1*1) (1*r.value.2)).1.1) (x:=g*r.value.2+r.value.1*1) (b:=(az (g*r.value.2+r.value.1*1) (1*r.value.2)).1.2) (c:=r.value.2) e7 e7 (by have:=hf.2.2;rw[Int.one_mul]at this;simpa using this);rw[E];by_cases h5:-r.value.1*1<g*r.value.2
 ·rw[if_pos h5];omega
 ·rw[if_neg h5];by_cases h6:g*r.value.2 < -r.value.1*1
  ·rw[if_pos h6];omega
  ·rw[if_neg h6];omega
end Go.Proofs.YtdadoignenffgaaGreatDoor
