import Derived.Test.YtalmoolkhcgmmaaGreatNqAltG35
import Derived.Test.YtalmoolkhcgmmaaGreatNqAltG32
import Derived.Test.YtalmoolkhcgmmaaGreatNqAltG45
set_option linter.unusedVariables false
set_option linter.unusedSimpArgs false
namespace Go.Proofs.YtalmoolkhcgmmaaGreat
variable{M i:Nat}{V l:j9}{X:j6}
theorem mulN{a b:Int}{A B:Nat}(h:a.natAbs<=A)(k:b.natAbs<=B):(a*b).natAbs<=A*B:=by rw[Int.natAbs_mul];exact Nat.mul_le_mul h k
theorem Yd{x:k5}{m:Int}(hv:o5 x=true)(hM:1<=M)(h:(M:Rat)*val x=(m:Rat)):Fr x m (M:Int):=by
 refine⟨hv,by omega,?_⟩;have hb:=aQ hv;have h2:((x.2:Int):Rat)≠0:=dO b9;unfold val at h;have e:((x.1:Int):Rat)*(M:Rat)=(m:Rat)*(x.2:Rat):=by grind
 have e2:(((x.1*(M:Int)):Int):Rat)=((m*x.2:Int):Rat):=by
  rw[Rat.intCast_mul,Rat.intCast_mul,<-e];have:(((M:Nat):Int):Rat)=(M:Rat):=by push_cast;rfl
  rw[this]
 exact_mod_cast e2
theorem nq{X:j6}{q M:Nat}{m:Nat->Int}(hX:X.length=q)(I:1<=M)(G:M<=2048)(CL:∀i,i<q->Fr (X[i]?.getD (0,0)) (m i) (M:Int))(hb:∀i,i<q->(m i).natAbs<=10000000){s:Nat}:∀j,j<=5->(∀k,k<j->q<=k->bit (s:Int) k=false) ->
 ∃r x,zg X (AI (s:Int) j) (0,1)=some r/\Fr r x (M:Int)/\x.natAbs<=10000000*j
 | 0,_,_=>⟨(0,1),0,rfl,⟨by decide,by omega,by simp⟩,by simp⟩
 | j+1,hj,zI=>by
   obtain⟨r,x,h1,h2,h3⟩:=nq hX I G CL hb j b9 (fun k hk=>zI k b9);rw[fN,fC,h1]
   show∃r' x',zg X _ r=some r'/\_;cases hbj:bit (s:Int) j with
   | false =>
     rw[if_neg e7];exact⟨r,x,rfl,h2,by omega⟩
   | true =>
     have Oi:j<q:=by
      rcases Nat.lt_or_ge j q with h|h
      ·exact h
      ·rw[zI j b9 h]at hbj;cases hbj
     rw[if_pos rfl];have hf:=CL j Oi;have hbm:=hb j Oi;have z1:=h2.size;have z2:=hf.size;have p1:=(aQ h2.1).1;have p2:=(aQ hf.1).1;have n1:=mulN (A:=50000000) (B:=2048) (a:=r.1) (b:=(X[j]?.getD (0,0)).2) b9 b9;have n2:=mulN (A:=50000000) (B:=2048) (a:=(X[j]?.getD (0,0)).1) (b:=r.2) b9 b9;obtain⟨c,c1,c2⟩:=h2.add hf (z:=x+m j) (F:=(M:Int)) b9 b9 b9 b9 (by grind);refine⟨c,x+m j,?_,c2,by omega⟩;simp only[zg];rw[if_neg b9,Int.toNat_natCast,c1]
     rfl
theorem ql{q:Nat}{m:Nat->Int}(hX:X.length=q)(hq:q<=5)(J:1<=M)(I:M<=2048)(CL:∀i,i<q->Fr (X[i]?.getD (0,0)) (m i) (M:Int))(hb:∀i,i<q->(m i).natAbs<=10000000)
 (G:∀x∈V,-500<=x/\x<=500) {s:Nat} (hs:s<cN q):∃r e,bH X s=some r/\yU V X s=some e/\o5 e=true/\val e=xx q V (fun i=>val (X[i]?.getD (0,0))) (s:Int):=by
 have EH:=cu q hq;obtain⟨r,x,h1,h2,h3⟩:=nq hX J I CL hb (s:=s) 5 b9 (fun k hk hqk=>oN ⟨q,by omega⟩ ⟨s,by omega⟩ ⟨k,by omega⟩ hs hqk);have h1:bH X s=some r:=h1;have hv:-500<=V[s]?.getD 0/\V[s]?.getD 0<=500:=by
  by_cases hl:s<V.length
  ·rw[List.getElem?_eq_getElem hl,Option.getD_some];exact G _ (List.getElem_mem hl)
  ·rw[List.getElem?_eq_none b9];simp
 have z1:=h2.size;have p1:=(aQ h2.1).1;have n1:=mulN (A:=500) (B:=2048) (a:=V[s]?.getD 0) (b:=(M:Int)) b9 b9;have n2:=mulN (A:=500) (B:=2048) (a:=V[s]?.getD 0) (b:=r.2) b9 b9;obtain⟨c,c1,c2⟩:=(Fr.int (V[s]?.getD 0) b9 b9).sub h2 (z:=V[s]?.getD 0*(M:Int)-x) (F:=(M:Int)) b9 b9 b9 (by simp only;omega) (by grind);have he:yU V X s=some c:=by
  unfold yU;rw[h1]
  show Dh _ r=some c;unfold Dh;rw[c1]
  rfl
 obtain⟨r1,_⟩:=jT hq hs h1;refine⟨r,c,h1,he,c2.1,?_⟩;have F3:(xy (V[s]?.getD 0,1) r).2=true:=by rw[c1]
 obtain⟨_,_,_,a4⟩:=fW F3;rw[c1]at a4;rw[a4,bp,r1];unfold xx;rw[Int.toNat_natCast]
theorem TR:∀n:Fin 5,Nl n.val 1<=2048:=by decide
theorem Ky:∀q:Fin 5,∀i:Fin 4,∀j:Fin 4,i.val<q.val->xt ((2^i.val:Nat):Int) ((j.val:Nat):Int)=decide (j.val=i.val):=by decide +kernel
theorem Sp:∀q:Fin 6,∀i:Fin 5,i.val<q.val->xt ((cN q.val:Int)-1) ((i.val:Nat):Int)=true:=by decide +kernel
theorem SE:∀q:Fin 5,∀i:Fin 4,2<=q.val->i.val<q.val->1<=2^i.val/\2^i.val<cN q.val-1:=by decide
theorem pK(l:j9):∀k,k<=l.length->(((l.take k).sum:Int):Rat)=o0 (fun j=>((l[j]?.getD 0:Int):Rat)) k
 | 0,_=>by simp[o0]
 | k+1,h=>by
   rw[List.take_succ_eq_append_getElem b9,List.sum_append,List.sum_singleton,Rat.intCast_add,pK l k b9];simp only[o0];rw[List.getElem?_eq_getElem b9,Option.getD_some]
theorem sY{j k:Nat}(h:j<l.length):(wW l k)[j]?.getD 0=wL (xt (l[j]?.getD 0) (k:Int)):=by
 unfold wW;rw[List.getElem?_map,List.getElem?_eq_getElem h];rfl
theorem qU(l:j9)(k:Nat):(((wW l k).sum:Int):Rat)=o0 (fun j=>((wL (xt (l[j]?.getD 0) (k:Int)):Int):Rat)) l.length:=by
 have:=pK (wW l k) (wW l k).length (Nat.le_refl _);rw[List.take_length,di]at this;rw[this];exact aq fun j hj=>by rw[sY hj]
theorem sH{q:Nat}(hi:i<q):(zC q l)[i]?.getD []=wW l i++[-1,1]:=by
 unfold zC JH;rw[List.getElem?_map,List.getElem?_range hi];rfl
theorem iq{q:Nat}(hi:i<q):(∀j,j<l.length->((zC q l)[i]?.getD [])[j]?.getD 0=wL (xt (l[j]?.getD 0) (i:Int)))/\((zC q l)[i]?.getD [])[l.length]?.getD 0=-1/\((zC q l)[i]?.getD [])[l.length+1]?.getD 0=1:=by
 rw[sH hi];refine⟨fun j hj=>?_,?_,?_⟩
 ·rw[List.getElem?_append_left (by rw[di];exact hj),sY hj]
 ·rw[List.getElem?_append_right (by rw[di];omega),di];simp
 ·rw[List.getElem?_append_right (by rw[di];omega),di];simp
theorem nH{q:Nat}(hi:i<q):(Cl q l)[i]?.getD 0=-(wW l i).sum:=by
 unfold Cl EX;rw[List.getElem?_map,List.getElem?_range hi];rfl
theorem NA{q:Nat}(h:zv (q:Int) l=true):∃(lam:Nat->Rat) (c:Rat),(∀j,j<l.length->0<lam j)/\∀k,k<q->o0 (fun j=>lam j*((wL (xt (l[j]?.getD 0) (k:Int)):Int):Rat)) l.length=c:=by
 rw[<-pX]at h;unfold DJ at h;obtain⟨_,h2⟩:=both h;rw[Int.toNat_natCast]at h2;have hs:=of_decide_eq_true h2;obtain⟨ok,_,hc,_⟩:=eA hs;have cert:=nK ok hc hs;generalize bV aV (zC q l) (Cl q l) (Bp l)=r at cert;have EP:(Bp l).length=l.length+2:=by simp[Bp]
 have Vg:(zC q l).length=q:=by simp[zC]
 refine⟨fun j=>1+o4 r.X j,o4 r.X l.length-o4 r.X (l.length+1),fun j hj=>?_,fun k hk=>?_⟩
 ·have:=cert.x0 j b9
  grind
 ·have hr:=cert.row k b9;rw[EP]at hr;obtain⟨r1,I,G⟩:=iq (l:=l) hk;have e1:o0 (fun j=>(C4 (zC q l) k j:Rat)*o4 r.X j) (l.length+2)=o0 (fun j=>((wL (xt (l[j]?.getD 0) (k:Int)):Int):Rat)*o4 r.X j) l.length+(-1)*o4 r.X l.length+1*o4 r.X (l.length+1):=by
   have a1:o0 (fun j=>(C4 (zC q l) k j:Rat)*o4 r.X j) l.length=o0 (fun j=>((wL (xt (l[j]?.getD 0) (k:Int)):Int):Rat)*o4 r.X j) l.length:=aq fun j hj=>by
    unfold C4;rw[r1 j hj]
   have a2:((C4 (zC q l) k l.length:Int):Rat)=-1:=by unfold C4;rw[I];rfl
   have a3:((C4 (zC q l) k (l.length+1):Int):Rat)=1:=by unfold C4;rw[G];rfl
   simp only[o0];rw[a1,a2,a3]
  rw[e1,nH hk,Rat.intCast_neg,qU]at hr;have e2:o0 (fun j=>(1+o4 r.X j)*((wL (xt (l[j]?.getD 0) (k:Int)):Int):Rat)) l.length=o0 (fun j=>((wL (xt (l[j]?.getD 0) (k:Int)):Int):Rat)) l.length+o0 (fun j=>((wL (xt (l[j]?.getD 0) (k:Int)):Int):Rat)*o4 r.X j) l.length:=by
   rw[<-rE];exact aq fun j _=>by grind
  rw[e2];generalize o0 (fun j=>((wL (xt (l[j]?.getD 0) (k:Int)):Int):Rat)) l.length=u at hr⊢;generalize o0 (fun j=>((wL (xt (l[j]?.getD 0) (k:Int)):Int):Rat)*o4 r.X j) l.length=v at hr⊢
  grind
theorem ml{q:Nat}(hq:q<=5)(d:Nat->Rat):zs q d ((cN q:Int)-1)=o0 d q:=by
 unfold zs;refine aq fun i hi=>?_
 rw[Sp ⟨q,by omega⟩ ⟨i,by omega⟩ hi]
 show _*((1:Int):Rat)=_
 grind
theorem Nz{q:Nat}(hq:q<=5)(h:zv (q:Int) l=true){d:Nat->Rat}(hN:zs q d ((cN q:Int)-1)=0)(hd:∀s∈l,0<=zs q d s):∀s∈l,zs q d s=0:=by
 obtain⟨lam,c,h1,h2⟩:=NA h;have G:∀j,j<l.length->l[j]?.getD 0∈l:=fun j hj=>by rw[List.getElem?_eq_getElem hj,Option.getD_some];exact List.getElem_mem hj
 have CF:o0 (fun j=>lam j*zs q d (l[j]?.getD 0)) l.length=0:=by
  have e1:o0 (fun j=>lam j*zs q d (l[j]?.getD 0)) l.length=o0 (fun j=>o0 (fun k=>d k*(lam j*((wL (xt (l[j]?.getD 0) (k:Int)):Int):Rat))) q) l.length:=aq fun j hj=>by
   unfold zs;rw[<-cK];exact aq fun k hk=>by grind
  rw[e1,fU];have e2:o0 (fun k=>o0 (fun j=>d k*(lam j*((wL (xt (l[j]?.getD 0) (k:Int)):Int):Rat))) l.length) q=o0 (fun k=>d k*c) q:=aq fun k hk=>by
   rw[cK,h2 k hk]
  rw[e2,pH,<-ml hq,hN,Rat.zero_mul]
 intro s hs;obtain⟨j,hj,rfl⟩:=List.mem_iff_getElem.1 hs;refine Classical.byContradiction fun hne=>?_
 have zq:0<lam j*zs q d l[j]:=Rat.mul_pos (h1 j hj) (by have:=hd _ hs;grind);have hle:o0 (fun i=>if i=j then lam j*zs q d l[j] else 0) l.length<=o0 (fun j=>lam j*zs q d (l[j]?.getD 0)) l.length:=fw fun i hi=>by
  by_cases e:i=j
  ·subst e;rw[if_pos rfl,List.getElem?_eq_getElem hi,Option.getD_some];exact Rat.le_refl
  ·rw[if_neg e];exact Rat.mul_nonneg (Rat.le_of_lt (h1 i hi)) (hd _ (G i hi))
 rw[CF,cV hj (fun i _ hne=>if_neg hne),if_pos rfl]at hle
 grind
theorem rP{q:Nat}(Au:1<=q)(hq:q<=4)(hl:l.length<=14)(xR:∀s∈l,1<=s/\s<=(cN q:Int)-1)(h:∀d:Nat->Rat,zs q d ((cN q:Int)-1)=0->(∀s∈l,0<=zs q d s)->∀s∈l,zs q d s=0):zv (q:Int) l=true:=by
 unfold zv;have h1:eQ (q:Int) l=true:=by
  unfold eQ wJ;rw[fJ q b9];simp only[Bool.and_eq_true,decide_eq_true_eq,List.all_eq_true];exact⟨by omega,by omega,fun s hs=>xR s hs⟩
 rw[h1,Bool.true_and,Int.toNat_natCast];refine decide_eq_true ?_;have Vg:(zC q l).length=q:=by simp[zC]
 have hsm:E0 (zC q l) (Cl q l) (l.length+2):=by
  refine⟨by omega,by omega,by simp[zC,Cl],fun i hi=>?_,fun i j hi hj=>?_,fun i hi=>?_⟩
  ·rw[sH b9];simp[di]
  ·obtain⟨r1,J,I⟩:=iq (q:=q) (l:=l) (i:=i) b9;by_cases e:j<l.length
   ·rw[r1 j e];cases xt _ _<;>decide
   ·by_cases e2:j=l.length
    ·rw[e2,J];decide
    ·rw[show j=l.length+1 by omega,I];decide
  ·rw[nH b9];have:=gS l i (wW l i).length;rw[List.take_length,di]at this;omega
 refine sD hsm ?_;rintro⟨y,xM,G⟩;rw[Vg]at xM G;have zU:∀j,j<l.length->zs q (fun k=>- y k) (l[j]?.getD 0)=- o0 (fun k=>y k*((((zC q l)[k]?.getD [])[j]?.getD 0:Int):Rat)) q:=fun j hj=>by
  unfold zs;rw[<-eH];exact aq fun k hk=>by rw[(iq hk).1 j hj];grind
 have hm:o0 (fun k=>y k*((((zC q l)[k]?.getD [])[l.length]?.getD 0:Int):Rat)) q=- o0 y q:=by
  rw[<-eH];exact aq fun k hk=>by rw[(iq hk).2.1];show _*((-1:Int):Rat)=_;rw[show((-1:Int):Rat)=-1 from rfl];grind
 have hp:o0 (fun k=>y k*((((zC q l)[k]?.getD [])[l.length+1]?.getD 0:Int):Rat)) q=o0 y q :=
  aq fun k hk=>by rw[(iq hk).2.2];show _*((1:Int):Rat)=_;rw[show((1:Int):Rat)=1 from rfl];grind
 have h0:o0 y q=0:=by
  have a:=xM l.length b9;have b:=xM (l.length+1) b9;rw[hm]at a;rw[hp]at b
  grind
 have Fk:=h (fun k=>- y k) (by rw[ml b9,eH,h0];rfl) (fun s hs=>by
  obtain⟨j,hj,rfl⟩:=List.mem_iff_getElem.1 hs;have:=xM j b9;have e:=zU j hj;rw[List.getElem?_eq_getElem hj,Option.getD_some]at e
  rw[e];grind)
 have hB:o0 (fun k=>y k*(((Cl q l)[k]?.getD 0:Int):Rat)) q=o0 (fun j=>zs q (fun k=>- y k) (l[j]?.getD 0)) l.length:=by
  have e1:o0 (fun k=>y k*(((Cl q l)[k]?.getD 0:Int):Rat)) q=o0 (fun k=>o0 (fun j=>- y k*((wL (xt (l[j]?.getD 0) (k:Int)):Int):Rat)) l.length) q:=aq fun k hk=>by
   rw[nH hk,Rat.intCast_neg,qU,cK];grind
  rw[e1,fU]
  rfl
 rw[hB,cv (fun j hj=>Fk _ (by rw[List.getElem?_eq_getElem hj,Option.getD_some];exact List.getElem_mem hj))]at G;exact absurd G (by decide)
theorem pZ{l:List RR}:∀k,k<=l.length->∀x,x∈Af l k↔x∈l.take k
 | 0,_,x=>by simp[Af]
 | k+1,hk,x=>by
   have ih:=pZ (l:=l) k b9 x;rw[jW (l:=l) (k:=k) b9,List.mem_append,List.mem_singleton];by_cases h:0<k/\l[k]?.getD (0,0)=l[k-1]?.getD (0,0)
   ·rw[iN h.1 h.2,ih];refine⟨Or.inl,fun h2=>?_⟩
    rcases h2 with h2|h2
    ·exact h2
    ·rw[h2,h.2,List.getElem?_eq_getElem b9,Option.getD_some];exact List.mem_take_iff_getElem.2 ⟨k-1,by omega,rfl⟩
   ·rw[iO h,List.mem_append,List.mem_singleton,ih]
theorem lP{l:List RR}{r:j9}:r∈C9 l↔∃e∈l,r=zp l e l.length:=by
 unfold C9 CD;rw[List.mem_map];have hm:∀x,x∈Af (Ak l) l.length↔x∈l:=fun x=>by
  rw[pZ l.length (by rw[fk];exact Nat.le_refl _),List.take_of_length_le (by rw[fk];exact Nat.le_refl _)];exact(kz l).mem_iff
 constructor
 ·rintro⟨e,he,rfl⟩;exact⟨e,(hm e).1 he,rfl⟩
 ·rintro⟨e,he,rfl⟩;exact⟨e,(hm e).2 he,rfl⟩
theorem qM{l:List RR}{e:RR}:∀m,∀x:Int,x∈zp l e m↔∃k:Nat,k<m/\¬wU (l[k]?.getD (0,0)) e<0/\x=((k+1:Nat):Int)
 | 0,x=>by simp[zp]
 | m+1,x=>by
   have ih:=qM (l:=l) (e:=e) m x;by_cases h:wU (l[m]?.getD (0,0)) e<0
   ·rw[iX h,ih];constructor
    ·rintro⟨k,h1,h2⟩;exact⟨k,by omega,h2⟩
    ·rintro⟨k,h1,h2,h3⟩;by_cases G:k=m
     ·subst G;exact absurd h h2
     ·exact⟨k,by omega,h2,h3⟩
   ·rw[iY h,List.mem_append,List.mem_singleton,ih];constructor
    ·rintro(⟨k,h1,h2⟩|h3)
     ·exact⟨k,by omega,h2⟩
     ·exact⟨m,by omega,h,h3⟩
    ·rintro⟨k,h1,h2,h3⟩;by_cases G:k=m
     ·subst G;exact Or.inr h3
     ·exact Or.inl ⟨k,by omega,h2,h3⟩
theorem qa{α:Type}{P Q:α->Bool}:∀{l:List α},(∀a∈l,P a=true->Q a=true)->(∃a∈l,Q a=true/\P a=false)->l.countP P<l.countP Q
 | [],_,h=>by obtain⟨a,ha,_⟩:=h;cases ha
 | b::l,h,hx=>by
   have hle:l.countP P<=l.countP Q:=List.countP_mono_left fun a ha=>h a (List.mem_cons_of_mem _ ha)
   rw[List.countP_cons,List.countP_cons];obtain⟨a,ha,hq,hp⟩:=hx
   rcases List.mem_cons.1 ha with e|ha
   ·subst e;rw[hq,hp];simp;omega
   ·have:=qa (l:=l) (fun a ha=>h a (List.mem_cons_of_mem _ ha)) ⟨a,ha,hq,hp⟩;have hb:=h b List.mem_cons_self;cases e1:P b with
    | false=>simp;omega
    | true=>rw[hb e1];simp;omega
theorem qO{α:Type}(f:α->Rat):∀l:List α,l≠[]->∃a∈l,∀b∈l,f b<=f a
 | [],h=>absurd rfl h
 | [a],_=>⟨a,List.mem_cons_self,fun b hb=>by rw[List.mem_singleton]at hb;rw[hb];exact Rat.le_refl⟩
 | a::b::l,_=>by
   obtain⟨m,hm,l9⟩:=qO f (b::l) e7
   rcases Rat.le_total (a:=f a) (b:=f m)with h|h
   ·exact⟨m,List.mem_cons_of_mem _ hm,fun c hc=>by
     rcases List.mem_cons.1 hc with e|hc
     ·rw[e];exact h
     ·exact l9 c hc⟩
   ·exact⟨a,List.mem_cons_self,fun c hc=>by
     rcases List.mem_cons.1 hc with e|hc
     ·rw[e];exact Rat.le_refl
     ·exact Rat.le_trans (l9 c hc) h⟩
theorem sO{α:Type}(a b:α->Rat):∀l:List α,(∀s∈l,0<a s)->∃ε:Rat,0<ε/\∀s∈l,ε*b s<a s
 | [],_=>⟨1,by decide,fun s hs=>by cases hs⟩
 | s::l,h=>by
   obtain⟨ε,h1,h2⟩:=sO a b l fun t ht=>h t (List.mem_cons_of_mem _ ht)
   have hs:=h s List.mem_cons_self;have hx:∃δ:Rat,0<δ/\δ<=ε/\δ*b s<a s:=by
    by_cases hb:b s<=0
    ·refine⟨ε,h1,Rat.le_refl,?_⟩;have:=Rat.mul_nonneg (Rat.le_of_lt h1) (show 0<=- b s by grind)
     grind
    ·have G:0<b s:=Rat.not_le.1 hb;obtain⟨δ,d1,d2,d3⟩:∃δ:Rat,0<δ/\δ<=ε/\δ<=a s/(2*b s):=by
      have hq:0<a s/(2*b s):=by rw[Rat.div_def];exact Rat.mul_pos hs (Rat.inv_pos.2 (by grind))
      rcases Rat.le_total (a:=ε) (b:=a s/(2*b s))with g|g
      ·exact⟨ε,h1,Rat.le_refl,g⟩
      ·exact⟨_,hq,g,Rat.le_refl⟩
     refine⟨δ,d1,d2,?_⟩;have h3:=Rat.mul_le_mul_of_nonneg_left d3 (Rat.le_of_lt G);have e:b s*(a s/(2*b s))=a s/2:=by grind
     rw[e]at h3
     grind
   obtain⟨δ,d1,d2,d3⟩:=hx;refine⟨δ,d1,fun t ht=>?_⟩
   rcases List.mem_cons.1 ht with e|ht
   ·rw[e];exact d3
   ·have h4:=h2 t ht;by_cases hb:b t<=0
    ·have h5:=h t (List.mem_cons_of_mem _ ht);have:=Rat.mul_nonneg (Rat.le_of_lt d1) (show 0<=- b t by grind)
     grind
    ·have h6:=Rat.mul_le_mul_of_nonneg_left d2 (Rat.le_of_lt (Rat.not_le.1 hb))
     grind
theorem LO{p:Int}{l:j6}(h:yj p V X=some l){e:k5}(he:e∈l)(s:Int):
 s∈zp l e l.length↔s∈yk 1 (V.length-2)/\val e<=xx p.toNat V (fun i=>val (X[i]?.getD (0,0))) s:=by
 have hl:=(cJ h).2;have hv:=pT h;have hx:=pR h;have hk:∀k,k<l.length->val (l[k]?.getD (0,0))=xx p.toNat V (fun i=>val (X[i]?.getD (0,0))) (1+(k:Int)):=fun k hk=>by
  have e1:(l.map val)[k]?.getD 0=val (l[k]?.getD (0,0)):=by
   rw[List.getElem?_map,List.getElem?_eq_getElem hk];rfl
  rw[<-e1,hx];unfold FK yk;rw[List.map_map,List.getElem?_map,List.getElem?_range b9];rfl
 rw[qM];constructor
 ·rintro⟨k,h1,h2,rfl⟩;refine⟨?_,?_⟩
  ·unfold yk;exact List.mem_map.2 ⟨k,List.mem_range.2 b9,by omega⟩
  ·have G:o5 (l[k]?.getD (0,0))=true:=by rw[List.getElem?_eq_getElem h1,Option.getD_some];exact hv _ (List.getElem_mem h1)
   have:=(eW G (hv e he)).1 b9;rw[hk k h1]at this;rw[show(((k+1:Nat)):Int)=1+(k:Int)by omega];exact this
 ·rintro⟨h1,h2⟩;unfold yk at h1;obtain⟨k,I,rfl⟩:=List.mem_map.1 h1;have yQ:k<l.length:=by have:=List.mem_range.1 I;omega
  refine⟨k,yQ,?_,by omega⟩;have G:o5 (l[k]?.getD (0,0))=true:=by rw[List.getElem?_eq_getElem yQ,Option.getD_some];exact hv _ (List.getElem_mem yQ)
  have:=(eW G (hv e he)).2 (by rw[hk k yQ];exact h2);omega
theorem Ye{p:Int}{l:j6}(h:yj p V X=some l){s:Int}(hs:s∈yk 1 (V.length-2)):∃e∈l,val e=xx p.toNat V (fun i=>val (X[i]?.getD (0,0))) s:=by
 have hx:=pR h;have:xx p.toNat V (fun i=>val (X[i]?.getD (0,0))) s∈l.map val:=by rw[hx];exact List.mem_map.2 ⟨s,hs,rfl⟩
 obtain⟨e,he,e2⟩:=List.mem_map.1 this;exact⟨e,he,e2⟩
theorem iP(u:Rat)(q:Nat)(V:j9)(z:Nat->Rat):mB u (FK q V z)=(yk 1 (V.length-2)).countP fun s=>decide (u<=xx q V z s):=by unfold mB FK;rw[List.countP_map];rfl
theorem iQ(u:Rat)(q:Nat)(V:j9)(z:Nat->Rat):mC u (FK q V z)=(yk 1 (V.length-2)).countP fun s=>decide (u<xx q V z s):=by unfold mC FK;rw[List.countP_map];rfl
theorem rL{q:Nat}(c:Rat)(z:Nat->Rat)(s:Int):zs q (fun i=>c*z i) s=c*zs q z s:=by
 unfold zs;rw[<-cK];exact aq fun i hi=>by rw[Rat.mul_assoc]
theorem LN{p:Int}{l:j6}(ha:yj p V X=some l)(hb:∀r∈C9 l,zv p r=true){y:Nat->Rat}(hy:xx p.toNat V y ((V.length:Int)-1)=0):
 ¬More (FK p.toNat V y) (FK p.toNat V (fun i=>val (X[i]?.getD (0,0)))):=by
 rintro⟨t,h1,h2⟩;have DD:=(cJ ha).1;obtain⟨q,U,q1,W,hlen,_,_⟩:=aW (dl DD);have hq:p.toNat=q:=by omega
 have EC:=(kr DD).zL;rw[hq]at h1 h2 EC hy;obtain⟨x,hx⟩:∃x:Nat->Rat,x=fun i=>val (X[i]?.getD (0,0)):=⟨_,rfl⟩
 rw[<-hx]at h1 h2 EC;have Z:∀s,s∈yk 1 (V.length-2)->∃e∈l,val e=xx q V x s:=fun s hs=>by
  obtain⟨e,he,e2⟩:=Ye ha hs;rw[hq]at e2;exact⟨e,he,by rw[hx];exact e2⟩
 obtain⟨D,u⟩:=b8 ((yk 1 (V.length-2)).filter fun s=>decide (t<xx q V x s/\xx q V y s≠xx q V x s))
 have Z2:∀s,s∈D↔s∈yk 1 (V.length-2)/\t<xx q V x s/\xx q V y s≠xx q V x s:=fun s=>by rw[u,List.mem_filter,decide_eq_true_eq]
 by_cases hne:D=[]
 ·rw[iQ,iQ]at h2;have:(yk 1 (V.length-2)).countP (fun s=>decide (t<xx q V x s))<=(yk 1 (V.length-2)).countP (fun s=>decide (t<xx q V y s)):=List.countP_mono_left fun s hs hc=>by
   rw[decide_eq_true_eq]at hc⊢;by_cases e:xx q V y s=xx q V x s
   ·rw[e];exact hc
   ·have:s∈D:=(Z2 s).2 ⟨hs,hc,e⟩;rw[hne]at this;cases this
  omega
 ·obtain⟨s0,B0,l9⟩:=qO (xx q V x) D hne;obtain⟨O,hs0t,I⟩:=(Z2 s0).1 B0;obtain⟨e,he,IZ⟩:=Z s0 O;have R:∀s,s∈zp l e l.length↔s∈yk 1 (V.length-2)/\xx q V x s0<=xx q V x s:=fun s=>by
   have:=LO ha he s;rw[hq,<-hx,IZ]at this;exact this
  have XO:=hb _ (lP.2 ⟨e,he,rfl⟩);rw[U]at XO;obtain⟨d,hd⟩:∃d:Nat->Rat,d=fun i=>y i+(-1)*x i:=⟨_,rfl⟩
  have hyd:∀s,zs q d s=xx q V x s-xx q V y s:=fun s=>by
   rw[hd,Kz (z:=fun i=>(-1)*x i),rL];unfold xx;grind
  have Ia:∀s∈zp l e l.length,0<=zs q d s:=fun s hs=>by
   obtain⟨m1,m2⟩:=(R s).1 hs;rw[hyd];by_cases J:xx q V y s=xx q V x s
   ·rw[J];grind
   ·have K:s∈D:=(Z2 s).2 ⟨m1,by grind,J⟩;have hu:xx q V x s=xx q V x s0:=Rat.le_antisymm (l9 s K) m2;by_cases hlt:xx q V y s<xx q V x s
    ·grind
    ·exfalso
     have hv:xx q V x s<xx q V y s:=by
      rcases Rat.le_total (a:=xx q V y s) (b:=xx q V x s)with g|g
      ·exact absurd (Rat.le_antisymm g (Rat.not_lt.1 hlt)) J
      ·exact Rat.lt_of_le_of_ne g (fun e=>J e.symm)
     have h3:=h1 (xx q V y s) (by grind);rw[iP,iP]at h3
     have h4:=qa (l:=yk 1 (V.length-2)) (P:=fun G=>decide (xx q V y s<=xx q V x G)) (Q:=fun G=>decide (xx q V y s<=xx q V y G)) (fun G Rl hc=>by
      rw[decide_eq_true_eq]at hc⊢;by_cases e3:xx q V y G=xx q V x G
      ·rw[e3];exact hc
      ·have h5:=l9 G ((Z2 G).2 ⟨Rl,by grind,e3⟩)
       grind) ⟨s,m1,decide_eq_true Rat.le_refl,decide_eq_false (Rat.not_le.2 hv)⟩
     omega
  have hN:zs q d ((cN q:Int)-1)=0:=by rw[<-hlen,hyd,EC,hy];grind
  have:=Nz W XO hN Ia s0 ((R s0).2 ⟨O,Rat.le_refl⟩);rw[hyd]at this;exact I (by grind)
theorem vu{p:Int}{l:j6}(CG:p≠1)(xq:(yg p V).ok=true)(ha:yj p V X=some l)(hb:∀r∈C9 l,zv p r=true):X=(yg p V).pt:=by
 have DD:=(cJ ha).1;have hg:=dl DD;have e:yg p V=wP p V ((wV V []).length+1) [] 0:=by unfold yg;rw[if_pos hg,if_neg CG]
 rw[e]at xq⊢;obtain⟨m1,_,_,m4⟩:=fi xq;obtain⟨t1,t2⟩:=tg xq;obtain⟨_,xl,G,_⟩:=gn DD;have I:=pQ G
 rcases m4 _ (kr DD)with hm|hm
 ·have hu:=iC hg (jI xq) m1 hm;refine List.ext_getElem b9 fun i h1 h2=>?_
  have:=hu i b9;rw[List.getElem?_eq_getElem h1,List.getElem?_eq_getElem h2,Option.getD_some,Option.getD_some]at this;exact fV (I _ (List.getElem_mem h1)) (t2 _ (List.getElem_mem h2)) this.symm
 ·exact absurd hm (LN ha hb m1.zL)
theorem LB{p:Int}(h4:p<=4)(hg:aZ p V=true)(CG:p≠1)(xq:(yg p V).ok=true){l:j6}(ha:yj p V (yg p V).pt=some l):∀r∈C9 l,zv p r=true:=by
 intro r hr;obtain⟨e,he,rfl⟩:=lP.1 hr;obtain⟨q,O,U,R,hlen,_,_⟩:=aW hg;have hq:p.toNat=q:=by omega
 have en:yg p V=wP p V ((wV V []).length+1) [] 0:=by unfold yg;rw[if_pos hg,if_neg CG]
 have EH:=cu q R;have ZK:=(cJ ha).2;have J:∀s,s∈zp l e l.length↔s∈yk 1 (V.length-2)/\val e<=xx q V (fun i=>val ((yg p V).pt[i]?.getD (0,0))) s:=fun s=>by
  have:=LO ha he s;rw[hq]at this;exact this
 have hc14:V.length-2<=14:=by
  have:∀n:Fin 5,cN n.val<=16:=by decide
  have:=this ⟨q,by omega⟩;simp only at this;omega
 rw[en]at xq J;obtain⟨m1,_,_,m4⟩:=fi xq;have I:=jI xq;obtain⟨y,hy⟩:∃y:Nat->Rat,y=fun i=>val ((wP p V ((wV V []).length+1) [] 0).pt[i]?.getD (0,0)):=⟨_,rfl⟩
 rw[<-hy]at m1 m4 J;rw[O];refine rP U b9 (Nat.le_trans (iB _ _ _) b9) (fun s hs=>?_) fun d hN hd=>?_
 ·obtain⟨m,_⟩:=(J s).1 hs;unfold yk at m;obtain⟨k,hk,rfl⟩:=List.mem_map.1 m;have:=List.mem_range.1 hk;omega
 ·intro s1 Cu;refine Classical.byContradiction fun hne=>?_
  have zq:0<zs q d s1:=Rat.lt_of_le_of_ne (hd s1 Cu) (fun e=>hne e.symm);obtain⟨K,s1e⟩:=(J s1).1 Cu
  obtain⟨ε,e0,e1⟩:=sO (fun s=>val e-xx q V y s) (fun s=>- zs q d s) ((yk 1 (V.length-2)).filter fun s=>decide (xx q V y s<val e)) (fun s hs=>by
   have:=(List.mem_filter.1 hs).2;rw[decide_eq_true_eq]at this
   grind)
  have hz:∀s,xx q V (fun i=>y i+ε*d i) s=xx q V y s-ε*zs q d s:=fun s=>by
   rw[jn (z:=fun i=>ε*d i),rL]
  have Gv:∀s∈yk 1 (V.length-2),xx q V y s<val e->xx q V (fun i=>y i+ε*d i) s<val e:=fun s hs hlt=>by
   have:=e1 s (List.mem_filter.2 ⟨hs,decide_eq_true hlt⟩);rw[hz];grind
  have Wo:∀s∈yk 1 (V.length-2),val e<=xx q V y s->xx q V (fun i=>y i+ε*d i) s<=xx q V y s:=fun s hs hle=>by
   have:=Rat.mul_nonneg (Rat.le_of_lt e0) (hd s ((J s).2 ⟨hs,hle⟩));rw[hz];grind
  have hs1z:xx q V (fun i=>y i+ε*d i) s1<xx q V y s1:=by
   have:=Rat.mul_pos e0 zq;rw[hz];grind
  have hm:=m4 (fun i=>y i+ε*d i) ⟨by
   rw[hq,hz,hlen,hN];have:=m1.zL;rw[hq,hlen]at this
   rw[this];grind,fun f hf=>by cases hf⟩
  rw[hq]at hm
  rcases hm with hm|⟨t,g1,g2⟩
  ·have hu:=iC hg I (y:=y) (z:=fun i=>y i+ε*d i) m1 (by rw[hq];exact hm);rw[hq]at hu;refine hne ?_;unfold zs;refine cv fun k hk=>?_
   have h5:=hu k hk;have W:ε*d k=0:=by grind
   rcases Rat.mul_eq_zero.1 W with G|G
   ·rw[G]at e0;exact absurd e0 (by decide)
   ·rw[G];grind
  ·by_cases ht:xx q V y s1<=t
   ·rw[iQ,iQ]at g2;have:(yk 1 (V.length-2)).countP (fun s=>decide (t<xx q V (fun i=>y i+ε*d i) s))<=(yk 1 (V.length-2)).countP (fun s=>decide (t<xx q V y s)):=List.countP_mono_left fun s hs hc=>by
     rw[decide_eq_true_eq]at hc⊢;by_cases G:xx q V y s<val e
     ·have:=Gv s hs G;grind
     ·have:=Wo s hs (Rat.not_lt.1 G);grind
    omega
   ·have g3:=g1 (xx q V y s1) (Rat.not_le.1 ht);rw[iP,iP]at g3
    have g4:=qa (l:=yk 1 (V.length-2)) (P:=fun s=>decide (xx q V y s1<=xx q V (fun i=>y i+ε*d i) s)) (Q:=fun s=>decide (xx q V y s1<=xx q V y s)) (fun s hs hc=>by
     rw[decide_eq_true_eq]at hc⊢;by_cases G:xx q V y s<val e
     ·have:=Gv s hs G;grind
     ·have:=Wo s hs (Rat.not_lt.1 G);grind) ⟨s1,K,decide_eq_true Rat.le_refl,decide_eq_false (Rat.not_le.2 hs1z)⟩
    omega
theorem tq{p:Int}{q:Nat}{m:Nat->Int}(hp:p=(q:Int))(hg:aZ p V=true)(hX:X.length=q)(G:∀x∈X,o5 x=true)(K:1<=M)(J:M<=2048)(CL:∀i,i<q->Fr (X[i]?.getD (0,0)) (m i) (M:Int))(hb:∀i,i<q->(m i).natAbs<=10000000)
 (hN:xx q V (fun i=>val (X[i]?.getD (0,0))) ((V.length:Int)-1)=0):∃l,yj p V X=some l:=by
 obtain⟨n,hpn,h1,h5,hlen,_,I⟩:=aW hg;obtain rfl:n=q:=by omega
 have EH:=cu n h5;have DD:ye p V X=true:=by
  obtain⟨r,e,e1,e2,e3,e4⟩:=ql hX h5 K J CL hb I (s:=V.length-1) b9;obtain⟨r1,O⟩:=jT h5 (show V.length-1<cN n by omega) e1;unfold ye;rw[hg,e1];have R:yz X=true:=by unfold yz;exact List.all_eq_true.2 G
  have BO:bD p V=V[V.length-1]?.getD 0:=ez hg;have IX:-500<=bD p V/\bD p V<=500:=by
   rw[BO,List.getElem?_eq_getElem b9,Option.getD_some];exact I _ (List.getElem_mem _)
  have er:r=(bD p V,1):=by
   refine fV O (eI _ b9 b9) ?_;rw[r1,bp,BO];unfold xx at hN;rw[show((V.length:Int)-1)=((V.length-1:Nat):Int)by omega,Int.toNat_natCast]at hN
   grind
  rw[R,er];simp only[Bool.true_and,Bool.and_eq_true,decide_eq_true_eq,and_true];omega
 have An:∀c,c<=V.length-2->∃l,Di V X 1 c=some l:=by
  intro c
  induction c with
  | zero=>intro _;exact⟨[],rfl⟩
  | succ c ih =>
    intro hc;obtain⟨l,l1⟩:=ih b9;obtain⟨r,e,e1,e2,e3,e4⟩:=ql hX h5 K J CL hb I (s:=1+c) b9;exact⟨l++[e],dB l1 e2⟩
 obtain⟨l,l1⟩:=An (V.length-2) (Nat.le_refl _);exact⟨l,by rw[ji DD,l1]⟩
theorem OZ(hb:∀x∈V,-500<=x/\x<=500)(s:Nat):(-500:Rat)<=((V[s]?.getD 0:Int):Rat)/\((V[s]?.getD 0:Int):Rat)<=500:=by
 have:-500<=V[s]?.getD 0/\V[s]?.getD 0<=500:=by
  by_cases hl:s<V.length
  ·rw[List.getElem?_eq_getElem hl,Option.getD_some];exact hb _ (List.getElem_mem hl)
  ·rw[List.getElem?_eq_none b9];simp
 have e1:((-500:Int):Rat)=-500:=rfl;have e2:((500:Int):Rat)=500:=rfl;rw[<-e1,<-e2];exact⟨Rat.intCast_le_intCast.2 this.1,Rat.intCast_le_intCast.2 this.2⟩
theorem oH{q:Nat}(h2:2<=q)(h4:q<=4)(hb:∀x∈V,-500<=x/\x<=500){g:Rat}(s:Int):(0<=g->xx q V (fun _=>g) s<=500)/\(-125<=g->xx q V (fun _=>g) s<=1000):=by
 have hv:=(OZ hb s.toNat).2;have G:∀k,((wL (xt s ((k:Nat):Int)):Int):Rat)=0∨((wL (xt s ((k:Nat):Int)):Int):Rat)=1:=fun k=>by
  cases xt s (k:Int)
  ·exact Or.inl rfl
  ·exact Or.inr rfl
 have Gv:∀c:Rat,c<=0->c<=g->(q:Rat)*c<=zs q (fun _=>g) s:=fun c y5 hc=>by
  have h1:o0 (fun _=>c) q<=zs q (fun _=>g) s:=fw fun k hk=>by
   rcases G k with e|e
   ·rw[e];grind
   ·rw[e];grind
  have h2:∀n:Nat,o0 (fun _=>c) n=(n:Rat)*c:=fun n=>by
   induction n with
   | zero=>simp[o0]
   | succ n ih=>simp only[o0];rw[ih];push_cast;grind
  rw[h2]at h1;exact h1
 have hq4:(q:Rat)<=4:=by exact_mod_cast h4
 constructor
 ·intro hg;have:=Gv 0 Rat.le_refl hg;unfold xx;grind
 ·intro hg;have:=Gv (-125) (by decide) hg;have h3:(4:Rat)*(-125)<=(q:Rat)*(-125):=by grind
  unfold xx;grind
theorem SB{n:Nat}{y:Nat->Rat}{G E:Rat}(h2:(2:Rat)<=(n:Rat))(h4:(n:Rat)<=4)(hl:∀i,i<n->-500-E<=y i)(hs:o0 y n=G)(hb:G<=500)(I:(0<=G->E<=500)/\E<=1000)(i:Nat)(hi:i<n):y i<=4500:=by
 obtain⟨c,hc⟩:=b8 (-500-E);rw[<-hc]at hl;have h1:o0 (fun k=>c+(if k=i then y i-c else 0)) n<=o0 y n:=fw fun k hk=>by
  by_cases e:k=i
  ·rw[if_pos e,e];grind
  ·rw[if_neg e];have:=hl k hk;grind
 have P':∀m:Nat,o0 (fun _=>c) m=(m:Rat)*c:=fun m=>by
  induction m with
  | zero=>simp[o0]
  | succ m ih=>simp only[o0];rw[ih];push_cast;grind
 rw[rE,P',cV hi (fun k _ hne=>if_neg hne),if_pos rfl,hs]at h1;by_cases h0:c<=0
 ·have h5:=Rat.mul_nonneg (show 0<=4-(n:Rat)by grind) (show 0<=-c by grind);by_cases J:0<=G
  ·have:=I.1 J;grind
  ·have:=I.2;grind
 ·have h5:=Rat.mul_nonneg (show 0<=(n:Rat)-1 by grind) (Rat.le_of_lt (Rat.not_le.1 h0))
  grind
theorem SC{p:Int}{q:Nat}(I:p.toNat=q)(h2:2<=q)(h4:q<=4)(hg:aZ p V=true){f k:Nat}(xq:(wP p V (f+1) [] k).ok=true):
 ∀i,i<q->-4500<=val ((wP p V (f+1) [] k).pt[i]?.getD (0,0))/\val ((wP p V (f+1) [] k).pt[i]?.getD (0,0))<=4500:=by
 obtain⟨n,hpn,_,_,hlen,_,J⟩:=aW hg;obtain rfl:n=q:=by omega
 have EH:=cu n b9;obtain⟨m1,_,m3,_⟩:=fi xq;have hst:xH p V []=true/\(ap p.toNat V []).status=1:=by
  false_or_by_contra
  rename_i U
  rw[wP,if_neg U]at xq;cases xq
 obtain⟨y,hy⟩:∃y:Nat->Rat,y=fun i=>val ((wP p V (f+1) [] k).pt[i]?.getD (0,0)):=⟨_,rfl⟩
 rw[<-hy,I]at m1 m3;obtain⟨E,Z⟩:=b8 (- val (ap n V []).value);rw[<-Z]at m3;rw[I]at hst;have CL:∀i,i<n->((2^i:Nat):Int)∈wV V []:=fun i hi=>by
  have hp:=SE ⟨n,by omega⟩ ⟨i,by omega⟩ h2 hi;simp only at hp;unfold wV bd yk;refine List.mem_filter.2 ⟨List.mem_map.2 ⟨2^i-1,List.mem_range.2 b9,by omega⟩,rfl⟩
 have Gv:∀i,i<n->-500-E<=y i:=fun i hi=>by
  have he:=m3 _ (CL i hi);have hz:zs n y ((2^i:Nat):Int)=y i:=by
   unfold zs;rw[cV hi (fun k hk hne=>by rw[Ky ⟨n,by omega⟩ ⟨i,by omega⟩ ⟨k,by omega⟩ hi];simp only;rw[decide_eq_false b9];show _*((0:Int):Rat)=0;grind)];rw[Ky ⟨n,by omega⟩ ⟨i,by omega⟩ ⟨i,by omega⟩ hi,decide_eq_true rfl]
   show _*((1:Int):Rat)=_
   grind
  unfold xx at he;rw[hz,Int.toNat_natCast]at he;have:=(OZ J (2^i)).1
  grind
 have zF:∀w:Nat->Rat,xx n V w ((V.length:Int)-1)=0↔o0 w n=((V[V.length-1]?.getD 0:Int):Rat):=fun w=>by
  have hz:zs n w ((V.length:Int)-1)=o0 w n:=by rw[hlen];exact ml b9 w
  unfold xx;rw[hz,show((V.length:Int)-1)=((V.length-1:Nat):Int)by omega,Int.toNat_natCast];constructor<;>intro h<;>grind
 have CF:=(zF y).1 m1.zL;obtain⟨G,W⟩:=b8 (((V[V.length-1]?.getD 0:Int):Rat));have K:=OZ J (V.length-1);rw[<-W]at CF K;have P':∀m:Nat,o0 (fun _=>G/(n:Rat)) m=(m:Rat)*(G/(n:Rat)):=fun m=>by
  induction m with
  | zero=>simp[o0]
  | succ m ih=>simp only[o0];rw[ih];push_cast;grind
 have hnq:(n:Rat)≠0:=by exact_mod_cast (show n≠0 by omega)
 have heq:eP n V [] (fun _=>G/(n:Rat)):=⟨by rw[zF,P',<-W];grind,fun f hf=>by cases hf⟩;have Ik:=fS (p:=p) (V:=V) (L:=[]) hst.1 (by rw[I];exact hst.2) (z:=fun _=>G/(n:Rat)) (by rw[I];exact heq);rw[I,<-Z]at Ik;obtain⟨k1,k2,R⟩:=Ik;have O:(0<=G->E<=500)/\E<=1000:=by
  have H6:(2:Rat)<=(n:Rat):=by exact_mod_cast h2
  constructor
  ·intro h0;rw[<-k1];refine kM k2 R fun j hj=>(oH h2 h4 J _).1 ?_
   rw[Rat.div_def];exact Rat.mul_nonneg h0 (Rat.le_of_lt (Rat.inv_pos.2 (by grind)))
  ·rw[<-k1];by_cases h0:0<=G
   ·refine Rat.le_trans (kM (t:=500) k2 R fun j hj=>(oH h2 h4 J _).1 ?_) (by decide);rw[Rat.div_def];exact Rat.mul_nonneg h0 (Rat.le_of_lt (Rat.inv_pos.2 (by grind)))
   ·-- shares of a loss: at least -250 each for two,less for more
    refine kM k2 R fun j hj=>?_
    obtain⟨s,hs⟩:=b8 ((wV V [])[j]?.getD 0);rw[<-hs];have u:∀k,((wL (xt s ((k:Nat):Int)):Int):Rat)=0∨((wL (xt s ((k:Nat):Int)):Int):Rat)=1:=fun k=>by
     cases xt s (k:Int)
     ·exact Or.inl rfl
     ·exact Or.inr rfl
    have yP:G/(n:Rat)<=0:=by
     have h5:0<=(-G)*(n:Rat)⁻¹:=Rat.mul_nonneg (by grind) (Rat.le_of_lt (Rat.inv_pos.2 (by grind)));rw[Rat.div_def];grind
    have Ia:o0 (fun _=>G/(n:Rat)) n<=zs n (fun _=>G/(n:Rat)) s:=fw fun k hk=>by
     rcases u k with e|e
     ·rw[e];grind
     ·rw[e];grind
    rw[P']at Ia;have e6:(n:Rat)*(G/(n:Rat))=G:=by grind
    rw[e6]at Ia;have hv:=(OZ J s.toNat).2;unfold xx;grind
 have hne:∃j,j<(wV V []).length:=⟨0,by
  have:=CL 0 b9;cases e:wV V []with
  | nil=>rw[e]at this;cases this
  | cons a b=>simp⟩
 intro i hi
 show -4500<=(fun i=>val ((wP p V (f+1) [] k).pt[i]?.getD (0,0))) i/\(fun i=>val ((wP p V (f+1) [] k).pt[i]?.getD (0,0))) i<=4500;rw[<-hy];have ai:=Gv i hi;have EF:(n:Rat)<=4:=by exact_mod_cast h4
 refine⟨?_,SB (by exact_mod_cast h2) EF Gv CF K.2 O i hi⟩;have:=O.2
 grind
theorem SD{p:Int}(h4:p<=4)(hg:aZ p V=true)(xq:(yg p V).ok=true):∃l,yj p V (yg p V).pt=some l:=by
 obtain⟨q,I,h1,h5,hlen,_,O⟩:=aW hg;have EH:=cu q h5;by_cases CG:p=1
 ·have Au:q=1:=by omega
  subst Au;have e:(yg p V).pt=[(bD p V,1)]:=by unfold yg;rw[if_pos hg,if_pos CG]
  rw[e];have BO:bD p V=V[V.length-1]?.getD 0:=ez hg;have G:V.length=2:=hlen;have IX:-500<=bD p V/\bD p V<=500:=by
   rw[BO,List.getElem?_eq_getElem b9,Option.getD_some];exact O _ (List.getElem_mem _)
  refine tq (q:=1) (M:=1) (m:=fun _=>bD p V) I hg rfl (fun x hx=>?_) b9 b9 (fun i hi=>?_) (fun i hi=>by omega) ?_
  ·rw[List.mem_singleton]at hx;rw[hx];exact eI _ b9 b9
  ·obtain rfl:i=0:=by omega
   exact Fr.int _ b9 b9
  ·unfold xx zs;rw[G];simp only[o0]
   show((V[1]?.getD 0:Int):Rat)-(0+val (bD p V,1)*((1:Int):Rat))=0;rw[bp,BO,G]
   grind
 ·have e:yg p V=wP p V ((wV V []).length+1) [] 0:=by unfold yg;rw[if_pos hg,if_neg CG]
  rw[e]at xq⊢;have K:p.toNat=q:=by omega
  obtain⟨m1,_,_,_⟩:=fi xq;obtain⟨t1,t2⟩:=tg xq;obtain⟨M,d1,d2,d3⟩:=Pd hg xq;rw[K]at m1 t1 d2 d3;have R:M<=2048:=Nat.le_trans d2 (TR ⟨q,by omega⟩);have CO:=SC K b9 b9 hg xq;obtain⟨m,hm⟩:∃m:Nat->Int,∀i,i<q->(M:Rat)*val ((wP p V ((wV V []).length+1) [] 0).pt[i]?.getD (0,0))=(m i:Rat):=by
   refine⟨fun i=>if h:i<q then(d3 i h).choose else 0,fun i hi=>?_⟩;simp only[hi,dif_pos];exact(d3 i hi).choose_spec
  have Gr:∀i,i<q->o5 ((wP p V ((wV V []).length+1) [] 0).pt[i]?.getD (0,0))=true:=fun i hi=>by
   have Bb:i<(wP p V ((wV V []).length+1) [] 0).pt.length:=by omega
   rw[List.getElem?_eq_getElem Bb,Option.getD_some];exact t2 _ (List.getElem_mem Bb)
  refine tq I hg t1 t2 d1 R (fun i hi=>Yd (Gr i hi) d1 (hm i hi)) (fun i hi=>?_) m1.zL;have:=hm i hi;obtain⟨b1,J⟩:=CO i hi;generalize val ((wP p V ((wV V []).length+1) [] 0).pt[i]?.getD (0,0))=x at this b1 J;have ZX:(1:Rat)<=(M:Rat)/\(M:Rat)<=2048:=by constructor<;>exact_mod_cast b9
  have c1:(M:Rat)*x<=(M:Rat)*4500:=Rat.mul_le_mul_of_nonneg_left J (by grind);have c2:(M:Rat)*(-4500)<=(M:Rat)*x:=Rat.mul_le_mul_of_nonneg_left b1 (by grind);rw[this]at c1 c2;have c3:(m i:Rat)<=((9216000:Int):Rat):=by
   have:((9216000:Int):Rat)=9216000:=rfl;rw[this];grind
  have c4:((-9216000:Int):Rat)<=(m i:Rat):=by
   have:((-9216000:Int):Rat)=-9216000:=rfl;rw[this];grind
  have c3:m i<=9216000:=Rat.intCast_le_intCast.1 c3;have c4:-9216000<=m i:=Rat.intCast_le_intCast.1 c4;omega
end Go.Proofs.YtalmoolkhcgmmaaGreat
