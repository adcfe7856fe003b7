import Derived.Test.YtdadoignenffgaaGreatDoorSvAllG20
import Derived.Test.YtdadoignenffgaaGreatDoorSvAllG46
set_option linter.unusedVariables false
set_option linter.unusedSimpArgs false
namespace Go.Proofs.YtdadoignenffgaaGreatDoor
theorem jR{f g:Nat->Rat}:∀{m},(∀k,k<m->f k<=g k)->r7 f m<=r7 g m
 | 0,_=>Rat.le_refl
 | m+1,h=>by
   have h1:=jR (m:=m) (fun k hk=>h k e7);have h2:=h m e7;simp only[r7];grind
theorem mO{f:Nat->Rat}:∀{m},(∀k,k<m->0<=f k)->0<=r7 f m
 | 0,_=>Rat.le_refl
 | m+1,h=>by
   have h1:=mO (m:=m) (fun k hk=>h k e7);have h2:=h m e7;simp only[r7];grind
theorem iu(l:j7)(j:Nat)(E:j<l.length):r8 (ar l) j=((l[j]?.getD 0:Int):Rat):=by
 unfold r8;rw[jH E,ed]
def BX(A:j5)(i j:Nat):Int:=(A[i]?.getD [])[j]?.getD 0
structure Cert(A:j5)(B:j7)(C:j4)(r:yu):Prop where
 xl:r.X.length=C.length
 yl:r.Y.length=A.length
 bl:B.length=A.length
 x0:∀j,j<C.length->0<=r8 r.X j
 row:∀i,i<A.length->r7 (fun j=>(BX A i j:Rat)*r8 r.X j) C.length=((B[i]?.getD 0:Int):Rat)
 ve:∀j,j<C.length->r7 (fun i=>r8 r.Y i*(BX A i j:Rat)) A.length<=r8 C j
 cx:val r.value=r7 (fun j=>r8 C j*r8 r.X j) C.length
 yb:val r.value=r7 (fun i=>r8 r.Y i*((B[i]?.getD 0:Int):Rat)) A.length
theorem Nz{A:j5}{B:j7}{C:j4}(ok:vG A B C=true){r:yu}(hc:aG am A B C r=true)(hs:r.status=1):Cert A B C r:=by
 obtain⟨h1,h2,h3,h4,h5,h6⟩:=eP ok;unfold aG at hc;rw[if_pos hs]at hc;obtain⟨hf,hc⟩:=both hc;obtain⟨hy,hc⟩:=both hc;obtain⟨hb,hm⟩:=both hc;unfold dF at hf;obtain⟨I,hf⟩:=both hf;obtain⟨U,hg⟩:=both hf;have I:=of_decide_eq_true I;have W:=of_decide_eq_true hy;have O:∀j,j<r.X.length->o9 (r.X[j]?.getD (0,0))=true/\0<=(r.X[j]?.getD (0,0)).1:=by
  intro j hj;have:=List.all_eq_true.1 U (r.X[j]) (List.getElem_mem hj);obtain⟨a,b⟩:=both this;rw[List.getElem?_eq_getElem hj,Option.getD_some];exact⟨a,of_decide_eq_true b⟩
 unfold gm at hm;cases e1:vg C r.X with
 | none=>rw[e1]at hm;cases hm
 | some x =>
   cases e2:vg r.Y (ar B)with
   | none=>rw[e1,e2]at hm;cases hm
   | some y =>
     rw[e1,e2]at hm;obtain⟨J,Q⟩:=both hm;have J:=of_decide_eq_true J;have G:=of_decide_eq_true Q;obtain⟨d1,_,_,d4⟩:=dz e1;obtain⟨f1,_,_,f4⟩:=dz e2;refine⟨I,by rw[W,h3],h3,fun j hj=>(fu (O j e7).1).1 (O j e7).2,fun i hi=>?_,fun j hj=>?_,?_,?_⟩
     ·have:=of_decide_eq_true (List.all_eq_true.1 hg i (List.mem_range.2 hi));obtain⟨k1,_,_,E⟩:=dz this;rw[et]at k1 E;rw[ed]at E;rw[E,k1,I];exact br fun j hj=>by rw[iu _ _ e7];rfl
     ·have:=List.all_eq_true.1 hb j (List.mem_range.2 hj);unfold am at this;cases e3:vg r.Y (ar (vJ A j))with
      | none=>rw[e3]at this;cases this
      | some v =>
        rw[e3]at this;obtain⟨s1,s2⟩:=both this;obtain⟨g1,g2,g3,g4⟩:=jU s1;have LH:=(fu g3).1 (of_decide_eq_true s2);obtain⟨k1,_,_,E⟩:=dz e3;have K:(vJ A j).length=A.length:=by unfold vJ;simp
        rw[et,K]at k1;have e4:r7 (fun i=>r8 r.Y i*(BX A i j:Rat)) A.length=val v:=by
         rw[E,k1];exact br fun i hi=>by rw[iu _ _ (by rw[K];exact hi),qZ _ _ _ hi];rfl
        rw[e4]
        show val v<=val (C[j]?.getD (0,0))
        grind
     ·rw[<-G,d4]
     ·rw[<-G,J,f4,f1,et,h3];exact br fun i hi=>by rw[iu _ _ e7]
open Go.RowKit
theorem ky{n N i j:Nat}(hi:i<n)(hi5:i<5)(E:j<N-1):BX (cq n N) i j=vX (bit ((1+j:Nat):Int) i):=by
 unfold BX cq xz;rw[List.getElem?_map,List.getElem?_range hi,Option.map_some,Option.getD_some];unfold xd yA;rw[List.getElem?_map,List.getElem?_map,List.getElem?_range E];simp only[Option.map_some,Option.getD_some];rw[gR _ _ e7 e7]
 norm_cast
theorem oB(b:Bool):((vX b:Int):Rat)=if b=true then 1 else 0:=by cases b<;>rfl
theorem eJ(c:Rat)(f:Nat->Rat):∀m,r7 (fun k=>c*f k) m=c*r7 f m
 | 0=>by simp only[r7];grind
 | m+1=>by simp only[r7];rw[eJ c f m];grind
theorem ir(f:Nat->Nat->Rat)(m:Nat):∀n,r7 (fun j=>r7 (fun i=>f i j) m) n=r7 (fun i=>r7 (fun j=>f i j) n) m
 | 0=>by
   simp only[r7];exact(em fun _ _=>rfl).symm
 | n+1=>by
   simp only[r7];rw[ir f m n];have:=hO (fun i=>r7 (fun j=>f i j) n) (fun i=>f i n) 1 m;simp only[Rat.one_mul]at this;rw[this]
end Go.Proofs.YtdadoignenffgaaGreatDoor
