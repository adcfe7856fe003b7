import Derived.Test.YthjjfkeacobikaaGreatPuAllG20
import Derived.Test.YthjjfkeacobikaaGreatPuAllG21
import Derived.Test.YthjjfkeacobikaaGreatPuAllG23
import Derived.Deep.Cut
import Derived.Test.YthjjfkeacobikaaGreatPuAllG11
set_option linter.unusedVariables false
set_option linter.unusedSimpArgs false
namespace Go.Proofs.YthjjfkeacobikaaGreat
set_option maxRecDepth 100000
open Go.RowKit
structure AS (w wr:World) (cb b5 base:Nat) (x:Int) (b:Option Addr) (m c:Nat) (V:List Int):Prop where
 box:∃ f,Bxs w wr cb f/\f b5=some (#[.int .i64 x,.slice b m c],29)/\f w.heap.size=some (#[.int .i64 0,.slice none 0 0],29)/\∀ k,b5<k->f k=none
 own:OwnI wr base (.slice b m c) V
section
variable {w wr w':World} {cb b5 base:Nat} {x:Int} {b:Option Addr} {m c:Nat} {V:List Int}
end
end Go.Proofs.YthjjfkeacobikaaGreat
namespace Go.Proofs.YthjjfkeacobikaaGreat
def cO (B:List Int) (base:Int × Int) (cs:List (Int × Int)) (n i:Nat):Int × Int:=sgnR (B[i]?.getD 0) (subR base (cs[n+i]?.getD (0,0))).1
def rawS (A:List (List Int)) (B:List Int) (C:List (Int × Int)):Option LpR :=
 (aO (dm C.length B.length) 1000 (bC A B C.length)).bind fun p1 =>
   if (p1.costs[C.length+B.length]?.getD (0,0)).1<0 then
    some ⟨2,[],(List.range B.length).map (cO B (1,1) p1.costs C.length),[],(0,0),1000-p1.left⟩
   else (aY C.length (p1.t,p1.left) B.length).bind fun s=>(aO (bU C B.length) s.2 s.1).map fun p2 =>
    if 0<=p2.col then ⟨3,(solT p2.t).take C.length,[],rayN p2.t C.length p2.col.toNat B.length,(0,0),1000-p2.left⟩
    else ⟨1,(solT p2.t).take C.length,(List.range B.length).map (cO B (0,1) p2.costs C.length),[],negR (p2.costs[C.length+B.length]?.getD (0,0)),1000-p2.left⟩
def ef (A:List (List Int)) (B:List Int) (C:List (Int × Int)):LpR :=
 if okLP A B C=true then
  match rawS A B C with
  | none=>aL 4
  | some r=>if aH aX A B C r=true then r else aL 4
 else aL 0
theorem ow {B:List Int} {base:Int × Int} {cs:List (Int × Int)} {n i:Nat} {x:Int × Int} (h:el B base cs n i=some x):cO B base cs n i=x:=by
 unfold el at h
 split at h
 ·exact Option.some.inj h
 ·cases h
theorem lC {a b:Int × Int} (h:(subR a b).2=false):(subR a b).1=(0,0):=by
 unfold subR at h ⊢
 split
 ·next hv=>rw [if_pos hv] at h;exact ratOf_no h
 ·rfl
theorem ov {B:List Int} {base:Int × Int} {cs:List (Int × Int)} {n i:Nat} (h:el B base cs n i=none):valR (cO B base cs n i)=false:=by
 unfold el at h
 split at h
 ·cases h
 ·next hf =>
  unfold cO;rw [lC (by simpa using hf)];unfold sgnR negR
  split <;> rfl
theorem pk {B:List Int} {cs:List (Int × Int)} {n i:Nat} (hv:valR (cs[n+i]?.getD (0,0))=true):cO B (0,1) cs n i=dk B cs n i:=by
 unfold cO dk;rw [nI (x:=0) (c:=negR (cs[n+i]?.getD (0,0))) (by omega) (by omega) hv (by rw [dj];exact hv) (by rw [eG];grind)]
theorem jX {f:Nat->Option (Int × Int)}:∀ {k:Nat},runT f k=none->∃ i,i<k/\f i=none
 | 0,h=>by cases h
 | k+1,h=>by
   cases hk:runT f k with
   | none=>obtain ⟨i,hi,hf⟩:=jX hk;exact ⟨i,by omega,hf⟩
   | some l =>
     cases hf:f k with
     | none=>exact ⟨k,by omega,hf⟩
     | some x=>rw [dI hk hf] at h;cases h
theorem rawS_eq {A:List (List Int)} {B:List Int} {C:List (Int × Int)} (ok:okLP A B C=true) :
 rawS A B C=rawT A B C ∨ (rawT A B C=none/\∃ r,rawS A B C=some r/\aH aX A B C r=false):=by
 obtain ⟨h1,h2,h3,h4,h5,h6⟩:=eM ok;unfold rawS rawT;cases e1:aO (dm C.length B.length) 1000 (bC A B C.length) with
 | none=>exact Or.inl rfl
 | some p1 =>
   simp only [Option.bind_some];by_cases hneg:(p1.costs[C.length+B.length]?.getD (0,0)).1<0
   ·rw [if_pos hneg,if_pos hneg];cases hr:runT (el B (1,1) p1.costs C.length) B.length with
    | some Y =>
      left
      have hY:(List.range B.length).map (cO B (1,1) p1.costs C.length)=Y:=by
       have:=mz (f:=el B (1,1) p1.costs C.length) (F:=cO B (1,1) p1.costs C.length) (k:=B.length) fun i hi=>by
        have:=iG hr i hi;rw [this,ow this]
       rw [hr] at this;exact (Option.some.inj this).symm
      rw [hY];rfl
    | none =>
      right
      refine ⟨rfl,_,rfl,?_⟩;obtain ⟨i,hi,hf⟩:=jX hr;have hv:=ov hf;unfold aH;rw [if_neg (by simp),if_pos rfl];simp only;rw [Bool.and_eq_false_iff]
      right
      unfold iF;rw [Bool.and_eq_false_iff]
      right
      cases hd:dotL ((List.range B.length).map (cO B (1,1) p1.costs C.length)) (aw B) with
      | none=>rfl
      | some v =>
        exfalso
        have:=((ed hd).2.2.1 i (by simpa using hi)).1;rw [List.getElem?_map,List.getElem?_range hi,Option.map_some,Option.getD_some,hv] at this;cases this
   ·rw [if_neg hneg,if_neg hneg]
    left
    cases e2:aY C.length (p1.t,p1.left) B.length with
    | none=>rfl
    | some s =>
      simp only [Option.bind_some];cases e3:aO (bU C B.length) s.2 s.1 with
      | none=>rfl
      | some p2 =>
        simp only [Option.map_some]
        split
        ·rfl
        ·have i1:=(dg (eF ok) e1).1;have i2:=(ek (s:=(p1.t,p1.left)) i1 e2).1;obtain ⟨i3,e4,_⟩:=dg i2 e3;obtain ⟨c1,c2⟩:=dE i3 e4
         congr 2
         apply List.map_congr_left
         intro i hi;exact pk (c1.2 _ (by have:=List.mem_range.1 hi;omega))
theorem qs (A:List (List Int)) (B:List Int) (C:List (Int × Int)):ef A B C=bV aX A B C:=by
 unfold ef bV
 split
 ·next ok =>
  rcases rawS_eq ok with h|⟨h1,r,h2,h3⟩
  ·rw [h];cases rawT A B C <;> rfl
  ·rw [h1,h2];simp only;rw [h3];rfl
 ·rfl
theorem oT {A:List (List Int)} {B:List Int} {C:List (Int × Int)} (hn:okLP A B C=true->∀ j,j<C.length->niceC A C j):bV aK A B C=ef A B C:=by rw [qs];exact solve_eq hn
theorem raw_val {A:List (List Int)} {B:List Int} {C:List (Int × Int)} (ok:okLP A B C=true) {r:LpR} (h:rawT A B C=some r) (hs:r.status=1) :
 r.Y.length=B.length/\valR r.value=true/\(∀ k,k<r.Y.length->valR (r.Y[k]?.getD (0,0))=true):=by
 obtain ⟨h1,h2,h3,h4,h5,h6⟩:=eM ok;unfold rawT at h;rw [h3] at h;cases e1:aO (dm C.length A.length) 1000 (bC A B C.length) with
 | none=>rw [e1] at h;cases h
 | some p1 =>
   rw [e1] at h;simp only [Option.bind_some] at h
   split at h
   ·rw [Option.map_eq_some_iff] at h;obtain ⟨Y,_,rfl⟩:=h;cases hs
   ·cases e2:aY C.length (p1.t,p1.left) A.length with
    | none=>rw [e2] at h;cases h
    | some s =>
      rw [e2] at h;simp only [Option.bind_some] at h;rw [Option.map_eq_some_iff] at h;obtain ⟨p2,e3,h⟩:=h
      split at h
      ·subst h;cases hs
      ·have i1:=(dg (eF ok) e1).1;have i2:=(ek (s:=(p1.t,p1.left)) i1 e2).1;obtain ⟨i3,e4,_⟩:=dg i2 e3;obtain ⟨c1,c2⟩:=dE i3 e4;subst h;refine ⟨by simp [h3],?_,fun k hk=>?_⟩
       ·simp only;rw [dj];exact c1.2 _ (by omega)
       ·simp only [List.length_map,List.length_range] at hk;simp only;rw [List.getElem?_map,List.getElem?_range hk,Option.map_some,Option.getD_some];have hv:=c1.2 (C.length+k) (by omega);unfold dk sgnR
        split
        ·rw [dj,dj];exact hv
        ·rw [dj];exact hv
theorem kg {bound:List (List Int)->List (Int × Int)->List (Int × Int)->Nat->Bool} {A:List (List Int)} {B:List Int} {C:List (Int × Int)} (h:(bV bound A B C).status=1) :
 okLP A B C=true/\rawT A B C=some (bV bound A B C)/\aH bound A B C (bV bound A B C)=true/\(bV bound A B C).Y.length=B.length/\valR (bV bound A B C).value=true/\∀ k,k<(bV bound A B C).Y.length->valR ((bV bound A B C).Y[k]?.getD (0,0))=true:=by
 cases ok:okLP A B C with
 | false=>unfold bV at h;rw [if_neg (by rw [ok];simp)] at h;cases h
 | true =>
   cases hr:rawT A B C with
   | none =>
     have e:bV bound A B C=aL 4:=by unfold bV;rw [if_pos ok,hr]
     rw [e] at h;cases h
   | some r =>
     have e:bV bound A B C=if aH bound A B C r=true then r else aL 4:=by unfold bV;rw [if_pos ok,hr]
     by_cases hc:aH bound A B C r=true
     ·rw [if_pos hc] at e;rw [e] at h ⊢;have:=raw_val ok hr h;exact ⟨rfl,rfl,hc,this⟩
     ·rw [if_neg hc] at e;rw [e] at h;cases h
def ent (A:List (List Int)) (i j:Nat):Int:=(A[i]?.getD [])[j]?.getD 0
structure Cert (A:List (List Int)) (B:List Int) (C:List (Int × Int)) (r:LpR):Prop where
 xl:r.X.length=C.length
 yl:r.Y.length=A.length
 bl:B.length=A.length
 x0:∀ j,j<C.length->0<=vrow r.X j
 row:∀ i,i<A.length->sumN (fun j=>(ent A i j:Rat)*vrow r.X j) C.length=((B[i]?.getD 0:Int):Rat)
 col:∀ j,j<C.length->sumN (fun i=>vrow r.Y i*(ent A i j:Rat)) A.length<=vrow C j
 cx:val r.value=sumN (fun j=>vrow C j*vrow r.X j) C.length
 yb:val r.value=sumN (fun i=>vrow r.Y i*((B[i]?.getD 0:Int):Rat)) A.length
end Go.Proofs.YthjjfkeacobikaaGreat
