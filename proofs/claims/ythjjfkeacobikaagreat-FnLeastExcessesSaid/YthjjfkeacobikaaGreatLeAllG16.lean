import Derived.Test.YthjjfkeacobikaaGreatLeAllG15
import Derived.Test.YthjjfkeacobikaaGreatLeAllG42
import Derived.Test.YthjjfkeacobikaaGreatLeAllG5
set_option linter.unusedVariables false
set_option linter.unusedSimpArgs false
namespace Go.Proofs.YthjjfkeacobikaaGreat
theorem mJ {f g:Nat->Rat}:∀ {m},(∀ k,k<m->f k<=g k)->sumN f m<=sumN g m
 | 0,_=>Rat.le_refl
 | m+1,h=>by
   have h1:=mJ (m:=m) (fun k hk=>h k (by omega));have h2:=h m (by omega);simp only [sumN];grind
theorem it (l:List Int) (j:Nat) (hj:j<l.length):vrow (au l) j=((l[j]?.getD 0:Int):Rat):=by
 unfold vrow;rw [jG hj,bv]
def ent (A:List (List Int)) (i j:Nat):Int:=(A[i]?.getD [])[j]?.getD 0
structure Cert (A:List (List Int)) (B:List Int) (C:List (Int × Int)) (r:LpR):Prop where
 xl:r.X.length=C.length
 yl:r.Y.length=A.length
 bl:B.length=A.length
 x0:∀ j,j<C.length->0<=vrow r.X j
 row:∀ i,i<A.length->sumN (fun j=>(ent A i j:Rat)*vrow r.X j) C.length=((B[i]?.getD 0:Int):Rat)
 col:∀ j,j<C.length->sumN (fun i=>vrow r.Y i*(ent A i j:Rat)) A.length<=vrow C j
 cx:val r.value=sumN (fun j=>vrow C j*vrow r.X j) C.length
 yb:val r.value=sumN (fun i=>vrow r.Y i*((B[i]?.getD 0:Int):Rat)) A.length
theorem mb {A:List (List Int)} {B:List Int} {C:List (Int × Int)} (ok:okLP A B C=true) {r:LpR} (hc:aD aK A B C r=true) (hs:r.status=1):Cert A B C r:=by
 obtain ⟨h1,h2,h3,h4,h5,h6⟩:=eT ok;unfold aD at hc;rw [if_pos hs] at hc;obtain ⟨hf,hc⟩:=both hc;obtain ⟨hy,hc⟩:=both hc;obtain ⟨hb,hm⟩:=both hc;unfold dj at hf;obtain ⟨hxl,hf⟩:=both hf;obtain ⟨hpos,hg⟩:=both hf;have hxl:=of_decide_eq_true hxl;have hyl:=of_decide_eq_true hy;have hxv:∀ j,j<r.X.length->valR (r.X[j]?.getD (0,0))=true/\0<=(r.X[j]?.getD (0,0)).1:=by
  intro j hj;have:=List.all_eq_true.1 hpos (r.X[j]) (List.getElem_mem hj);obtain ⟨a,b⟩:=both this;rw [List.getElem?_eq_getElem hj,Option.getD_some];exact ⟨a,of_decide_eq_true b⟩
 unfold gL at hm;cases e1:dotL C r.X with
 | none=>rw [e1] at hm;cases hm
 | some x =>
   cases e2:dotL r.Y (au B) with
   | none=>rw [e1,e2] at hm;cases hm
   | some y =>
     rw [e1,e2] at hm;obtain ⟨hxy,hxv2⟩:=both hm;have hxy:=of_decide_eq_true hxy;have hxr:=of_decide_eq_true hxv2;obtain ⟨d1,_,_,d4⟩:=dr e1;obtain ⟨f1,_,_,f4⟩:=dr e2;refine ⟨hxl,by rw [hyl,h3],h3,fun j hj=>(ed (hxv j (by omega)).1).1 (hxv j (by omega)).2,fun i hi=>?_,fun j hj=>?_,?_,?_⟩
     ·have:=of_decide_eq_true (List.all_eq_true.1 hg i (List.mem_range.2 hi));obtain ⟨k1,_,_,k4⟩:=dr this;rw [ew] at k1 k4;rw [bv] at k4;rw [k4,k1,hxl];exact av fun j hj=>by rw [it _ _ (by omega)];rfl
     ·have:=List.all_eq_true.1 hb j (List.mem_range.2 hj);unfold aK at this;cases e3:dotL r.Y (au (colL A j)) with
      | none=>rw [e3] at this;cases this
      | some v =>
        rw [e3] at this;obtain ⟨s1,s2⟩:=both this;obtain ⟨g1,g2,g3,g4⟩:=fA s1;have hnn:=(ed g3).1 (of_decide_eq_true s2);obtain ⟨k1,_,_,k4⟩:=dr e3;have hcl:(colL A j).length=A.length:=by unfold colL;simp
        rw [ew,hcl] at k1;have e4:sumN (fun i=>vrow r.Y i*(ent A i j:Rat)) A.length=val v:=by
         rw [k4,k1];exact av fun i hi=>by rw [it _ _ (by rw [hcl];exact hi),qe _ _ _ hi];rfl
        rw [e4]
        show val v<=val (C[j]?.getD (0,0))
        grind
     ·rw [<-hxr,d4]
     ·rw [<-hxr,hxy,f4,f1,ew,h3];exact av fun i hi=>by rw [it _ _ (by omega)]
open Go.RowKit
def dH (V:List Int):List (Int × Int):=(V.drop 1).map fun v=>(-v,1)
end Go.Proofs.YthjjfkeacobikaaGreat
