import Derived.Test.YthjjfkeacobikaaGreatPuAllG26
import Derived.Test.YthjjfkeacobikaaGreatPuAllG13
import Derived.Test.YthjjfkeacobikaaGreatPuAllG33
import Derived.Test.YthjjfkeacobikaaGreatPuAllG7
set_option linter.unusedVariables false
set_option linter.unusedSimpArgs false
namespace Go.Proofs.YthjjfkeacobikaaGreat
set_option maxRecDepth 100000
open Go.RowKit
theorem bj.snocA {w:World} {base:Nat} {vs:List Value} {L:List (List Int)} (h:bj w base vs L) {v:Value} {l:List Int} (ho:OwnI w base v l) (hoff:OffV vs v):bj w base (vs++[v]) (L++[l]):=by
 refine ⟨by simp [h.len],fun i hi=>?_,fun i j k hij hj hk=>?_⟩
 ·by_cases hl:i<L.length
  ·rw [List.getElem?_append_left (by rw [h.len];exact hl),List.getElem?_append_left hl];exact h.row i hl
  ·have:i=L.length:=by simp at hi;omega
   subst this;rw [<-h.len];simp only [List.getElem?_concat_length,Option.getD_some];rw [h.len];simp only [List.getElem?_concat_length,Option.getD_some];exact ho
 ·by_cases hl:j<L.length
  ·rw [List.getElem?_append_left (by rw [h.len];omega)] at hk;rw [List.getElem?_append_left (by rw [h.len];exact hl)];exact h.apart i j k hij hl hk
  ·have:j=L.length:=by simp at hj;omega
   subst this;rw [List.getElem?_append_left (by rw [h.len];omega)] at hk;rw [<-h.len];simp only [List.getElem?_concat_length,Option.getD_some];exact hoff i k (by rw [h.len];omega) hk
section
variable {w w2:World} {base g:Nat} {va vb vc:Value} {vs:List Value} {A:List (List Int)} {B:List Int} {C:List (Int × Int)}
theorem LpO.growRow (h:LpO w base g va vb vc vs A B C) {b2:Nat} {v:Value} {l:List Int} (ho:OwnI w b2 v l) (hgr:w.grownBy w2 v.ownBlock) (hoff:OffV vs v) (hb:∀ k,v.ownBlock=some k->vb.ownBlock ≠ some k):LpO w2 base g va vb vc vs A B C :=
 ⟨(hgr.block g h.lt (an ho h.box (by decide))).trans h.box,h.hg,h.a.keep (fun k hk=>hgr.block k (h.a.lt k hk).2 fun e=>ho.apart h.a k e.symm hk),
   h.rows.keep (fun i k hi hk=>hgr.block k ((h.rows.row i hi).lt k hk).2 fun e=>hoff i k (by rw [h.rows.len];exact hi) hk e.symm),
   h.b.keep (fun k hk=>hgr.block k (h.b.lt k hk).2 fun e=>hb k e.symm hk),h.off,h.c.keptI (Ext.refl _) ho hgr⟩
theorem LpO.pushA2 (h:LpO w base g va vb vc vs A B C) {vr va':Value} {r:List Int} (hr:OwnI w base vr r) (hoff:OffV vs vr) (hb:∀ k,vr.ownBlock=some k->vb.ownBlock ≠ some k) (hgr:w.grownBy w2 va.ownBlock) (ho:OwnV w2 base va' (vs++[vr])) :
 LpO (w2.setCell ⟨g,0,none⟩ va') base g va' vb vc (vs++[vr]) (A++[r]) B C:=by
 have hbox:w2.heap[g]?=some (.cells #[va,vb,vc] 109 (0,0)):=(hgr.block g h.lt h.neA).trans h.box;have hset:∀ k,k ≠ g->(w2.setCell ⟨g,0,none⟩ va').heap[k]?=w2.heap[k]?:=fun k hk=>heap_setCell_other _ _ _ _ hk
 have hB2:OwnI w2 base vb B:=h.b.keep fun k hk=>hgr.block k (h.b.lt k hk).2 fun e=>h.b.apart h.a k hk e.symm
 have hC2:OwnR w2 base vc C:=h.c.keep fun k hk=>hgr.block k (h.c.lt k hk).2 fun e=>au (by decide) h.c h.a k hk e.symm
 have hR1:bj w base (vs++[vr]) (A++[r]):=h.rows.snocA hr hoff;have hR2:bj w2 base (vs++[vr]) (A++[r]):=hR1.keep fun i k hi hk=>hgr.block k ((hR1.row i hi).lt k hk).2 fun e=>(hR1.row i hi).apart h.a k hk e.symm
 refine ⟨?_,h.hg,?_,?_,?_,?_,?_⟩
 ·have:=LpO.store (w:=w2) (w':=w2) (k:=0) (v:=va') hbox;exact this
 ·exact ho.keep fun k hk=>hset k fun e=>(an ho hbox (by decide)) (by rw [hk,e])
 ·exact hR2.keep fun i k hi hk=>hset k fun e=>(an (hR2.row i hi) hbox (by decide)) (by rw [hk,e])
 ·exact hB2.keep fun k hk=>hset k fun e=>(an hB2 hbox (by decide)) (by rw [hk,e])
 ·intro i k hi hk hk';by_cases hl:i<vs.length
  ·rw [List.getElem?_append_left hl] at hk;exact h.off i k hl hk hk'
  ·have hie:i=vs.length:=by simp at hi;omega
   subst hie;rw [List.getElem?_concat_length,Option.getD_some] at hk;exact hb k hk hk'
 ·exact hC2.keep fun k hk=>hset k fun e=>(an hC2 hbox (by decide)) (by rw [hk,e])
end
end Go.Proofs.YthjjfkeacobikaaGreat
namespace Go.Proofs.YthjjfkeacobikaaGreat
set_option maxRecDepth 100000
open Go.RowKit
section
variable {w:World} {base g:Nat} {vb vc:Value} {vs:List Value} {A:List (List Int)} {B:List Int} {C:List (Int × Int)}
theorem LpO.putA {w1 w2:World} {G N cap:Nat} (h:LpO w base g (.slice (some ⟨G,0,none⟩) N cap) vb vc vs A B C) (hx:Ext w w1) {k:Nat} (hk:k<N) {v':Value} {r:List Int} (hgr:w1.grownBy w2 (vs[k]?.getD undef).ownBlock) (ho:OwnI w2 base v' r) (hn:Near w1 (vs[k]?.getD undef) v') :
 LpO (w2.setCell ⟨G,k,none⟩ v') base g (.slice (some ⟨G,0,none⟩) N cap) vb vc (vs.set k v') (A.set k r) B C:=by
 have h1:=h.ext hx;have hvl:k<vs.length:=by rw [h.a.len];exact hk
 have hkl:k<A.length:=by rw [<-h.rows.len];exact hvl
 have hrk:=h1.rows.row k hkl;have hbox:w2.heap[g]?=some (.cells #[.slice (some ⟨G,0,none⟩) N cap,vb,vc] 109 (0,0)):=(hgr.block g h1.lt (h1.neR hkl)).trans h1.box;have hset:∀ j,j ≠ G->(w2.setCell ⟨G,k,none⟩ v').heap[j]?=w2.heap[j]?:=fun j hj=>heap_setCell_other _ _ _ _ hj
 have ha2:OwnV w2 base (.slice (some ⟨G,0,none⟩) N cap) vs:=h1.a.keep fun j hj=>hgr.block j (h1.a.lt j hj).2 fun e=>hrk.apart h1.a j e.symm hj
 have hb2:OwnI w2 base vb B:=h1.b.keep fun j hj=>hgr.block j (h1.b.lt j hj).2 fun e=>h1.off k j hvl e.symm hj
 have hc2:OwnR w2 base vc C:=h1.c.keep fun j hj=>hgr.block j (h1.c.lt j hj).2 fun e=>au (by decide) h1.c hrk j hj e.symm
 have hr2:∀ i,i<A.length->i ≠ k->OwnI w2 base (vs[i]?.getD undef) (A[i]?.getD []):=fun i hi hik=>(h1.rows.row i hi).keep fun j hj=>hgr.block j ((h1.rows.row i hi).lt j hj).2 fun e=>h1.rows.apart' hik hi hkl hj e.symm
 have hnk:∀ i j,i<A.length->i ≠ k->(vs[i]?.getD undef).ownBlock=some j->v'.ownBlock ≠ some j:=by
  intro i j hi hik hj hj'
  rcases hn j hj' with e|e
  ·exact h1.rows.apart' hik hi hkl hj e
  ·have:=((h1.rows.row i hi).lt j hj).2;omega
 have hgG:g ≠ G:=fun e=>h1.neA (by subst e;rfl)
 refine ⟨(hset g hgG).trans hbox,h.hg,?_,⟨by rw [List.length_set,List.length_set];exact h.rows.len,fun i hi=>?_,fun a b j hab hb2' hj hj2=>?_⟩,hb2.keep fun j hj=>hset j fun e=>hb2.apart ha2 j hj (by subst e;rfl),?_,hc2.keep fun j hj=>hset j fun e=>au (by decide) hc2 ha2 j hj (by subst e;rfl)⟩
 ·have hoo:=ha2;unfold OwnV at hoo;rw [h.a.len] at hoo;have:=(World.ownsRow.stored hoo k v').1;unfold OwnV;rw [List.length_set,h.a.len];exact this
 ·rw [List.length_set] at hi;by_cases hik:i=k
  ·subst hik;rw [List.getElem?_set_self hvl,List.getElem?_set_self hkl];exact ho.keep fun j hj=>hset j fun e=>ho.apart ha2 j hj (by subst e;rfl)
  ·rw [List.getElem?_set_ne (Ne.symm hik),List.getElem?_set_ne (Ne.symm hik)];exact (hr2 i hi hik).keep fun j hj=>hset j fun e=>(hr2 i hi hik).apart ha2 j hj (by subst e;rfl)
 ·rw [List.length_set] at hb2';by_cases hak:a=k
  ·subst hak;rw [List.getElem?_set_self hvl] at hj;rw [List.getElem?_set_ne (by omega)] at hj2;exact hnk b j hb2' (by omega) hj2 hj
  ·rw [List.getElem?_set_ne (Ne.symm hak)] at hj;by_cases hbk:b=k
   ·subst hbk;rw [List.getElem?_set_self hvl] at hj2;exact hnk a j (by omega) hak hj hj2
   ·rw [List.getElem?_set_ne (Ne.symm hbk)] at hj2;exact h.rows.apart a b j hab hb2' hj hj2
 ·intro i j hi hj hj';rw [List.length_set] at hi;by_cases hik:i=k
  ·subst hik;rw [List.getElem?_set_self hvl] at hj
   rcases hn j hj with e|e
   ·exact h1.off i j hi e hj'
   ·have:=(h1.b.lt j hj').2;omega
  ·rw [List.getElem?_set_ne (Ne.symm hik)] at hj;exact h1.off i j hi hj hj'
theorem LpO.putA0 {w1 w2:World} {G N cap:Nat} (h:LpO w base g (.slice (some ⟨G,0,none⟩) N cap) vb vc vs A B C) (hx:Ext w w1) {k:Nat} (hk:k<N) (hgr:w1.grownBy w2 (vs[k]?.getD undef).ownBlock) :
 w2.cell? ⟨G,k,none⟩=some (vs[k]?.getD undef)/\w2.frozen? ⟨G,k,none⟩=false:=by
 have h1:=h.ext hx;have hvl:k<vs.length:=by rw [h.a.len];exact hk
 have hkl:k<A.length:=by rw [<-h.rows.len];exact hvl
 have hrk:=h1.rows.row k hkl;have ha2:OwnV w2 base (.slice (some ⟨G,0,none⟩) N cap) vs:=h1.a.keep fun j hj=>hgr.block j (h1.a.lt j hj).2 fun e=>hrk.apart h1.a j e.symm hj
 constructor
 ·obtain ⟨G',hG,_,hc⟩:=ha2.cell hk;simp only [Option.some.injEq,Addr.mk.injEq,and_true] at hG;subst hG;rw [hc k hk];simp [hvl]
 ·rcases ha2.2 with ⟨he,h0⟩|⟨g',cap',cur,he,hb,hg,_⟩
  ·simp only [Value.slice.injEq] at he;obtain ⟨h3,_⟩:=he;cases h3
  ·simp only [Value.slice.injEq,Option.some.injEq,Addr.mk.injEq,and_true] at he;obtain ⟨rfl,_⟩:=he;exact frozen_of_row w2 _ _ cur _ hg
end
end Go.Proofs.YthjjfkeacobikaaGreat
