import Derived.Test.YtalmoolkhcgmmaaGreatNqAltG11
import Derived.Test.YtalmoolkhcgmmaaGreatNqAltG13
import Derived.Test.YtalmoolkhcgmmaaGreatNqAltG33
import Derived.Test.YtalmoolkhcgmmaaGreatNqAltG5
set_option linter.unusedVariables false
set_option linter.unusedSimpArgs false
namespace Go.Proofs.YtalmoolkhcgmmaaGreat
open Go.RowKit
variable{z:Nat->Rat}{m k n:Nat}{V:j9}
abbrev RR:Type:=k5
variable{x y:RR}{l X:List RR}
def C2(x y:RR):Bool:=!decide (wU x y<0)
theorem gG(hx:o5 x=true)(hy:o5 y=true):C2 x y=true↔val y<=val x:=by
 rw[<-eW hx hy];unfold C2;simp
theorem iV(hx:o5 x=true)(hy:o5 y=true):C2 x y=true∨C2 y x=true:=by
 rw[gG hx hy,gG hy hx]
 rcases Rat.le_total (a:=val y) (b:=val x)with h|h
 ·exact .inl h
 ·exact .inr h
theorem km{z:RR}(hx:o5 x=true)(hy:o5 y=true)(hz:o5 z=true)(h:C2 x y=true)(k:C2 y z=true):C2 x z=true:=by
 rw[gG hx hy]at h;rw[gG hy hz]at k;rw[gG hx hz];exact Rat.le_trans k h
theorem qr(hx:o5 x=true)(hy:o5 y=true)(h:C2 x y=true)(k:C2 y x=true):x=y:=by
 rw[gG hx hy]at h;rw[gG hy hx]at k;exact fV hx hy (Rat.le_antisymm k h)
theorem pQ(h:yz l=true):∀x∈l,o5 x=true:=by
 intro x hx;exact List.all_eq_true.1 h x hx
def Ba(x:RR)(l:List RR):Nat->Nat
 | 0=>0
 | m+1=>if wU (l[m]?.getD (0,0)) x<0 then Ba x l m else m+1
def Gm(x:RR)(l:List RR):List RR:=l.take (Ba x l l.length)++x::l.drop (Ba x l l.length)
def Ab(l:List RR):Nat->List RR
 | 0=>[]
 | k+1=>Gm (l[k]?.getD (0,0)) (Ab l k)
def Ak(l:List RR):List RR:=Ab l l.length
theorem oh(x:RR)(l:List RR):∀m,Ba x l m<=m
 | 0=>Nat.le_refl _
 | m+1=>by
   unfold Ba
   split
   ·have:=oh x l m;omega
   ·omega
theorem ks(h:¬wU (l[m]?.getD (0,0)) x<0):Ba x l (m+1)=m+1:=by rw[Ba,if_neg h]
theorem og(h:wU (l[m]?.getD (0,0)) x<0):Ba x l (m+1)=Ba x l m:=by rw[Ba,if_pos h]
theorem mX{x:RR}{l:List RR}:∀{m i:Nat},Ba x l m<=i->i<m->wU (l[i]?.getD (0,0)) x<0
 | m+1,i,h,hi=>by
   by_cases hc:wU (l[m]?.getD (0,0)) x<0
   ·rw[og hc]at h;by_cases Rv:i=m
    ·rw[Rv];exact hc
    ·exact mX h b9
   ·rw[ks hc]at h;omega
theorem qZ{x:RR}{l:List RR}:∀{m:Nat},0<Ba x l m->¬wU (l[Ba x l m-1]?.getD (0,0)) x<0
 | 0,h=>by simp[Ba]at h
 | m+1,h=>by
   by_cases hc:wU (l[m]?.getD (0,0)) x<0
   ·rw[og hc]at h⊢;exact qZ h
   ·rw[ks hc,Nat.add_sub_cancel];exact hc
theorem LR(x:RR)(l:List RR):(Gm x l).length=l.length+1:=by
 have:=oh x l l.length;unfold Gm;simp only[List.length_append,List.length_cons,List.length_take,List.length_drop];omega
theorem jV(l:List RR):∀k,(Ab l k).length=k
 | 0=>rfl
 | k+1=>by rw[Ab,LR,jV l k]
theorem vt(x:RR)(l:List RR):(Gm x l).Perm (l++[x]):=by
 unfold Gm;refine List.perm_middle.trans ?_;rw[List.take_append_drop];exact(List.perm_append_singleton x l).symm
theorem jW(h:k<l.length):l.take (k+1)=l.take k++[l[k]?.getD (0,0)]:=by
 rw[List.take_succ_eq_append_getElem h];simp[h]
theorem ky(l:List RR):∀k,k<=l.length->(Ab l k).Perm (l.take k)
 | 0,_=>by simp[Ab]
 | k+1,h=>by
   rw[Ab,jW b9];exact(vt _ _).trans ((ky l k b9).append_right _)
theorem kz(l:List RR):(Ak l).Perm l:=by
 have:=ky l l.length (Nat.le_refl _)
 rwa [List.take_length]at this
theorem se(hx:o5 x=true)(hl:∀y∈l,o5 y=true)(h:l.Pairwise fun a b=>C2 a b=true):(Gm x l).Pairwise fun a b=>C2 a b=true:=by
 obtain⟨p,hp⟩:=b8 (Ba x l l.length);have hle:=oh x l l.length;have I:l=l.take p++l.drop p:=(List.take_append_drop p l).symm;have h2:=h;rw[I,List.pairwise_append]at h2;obtain⟨ht,hd,G⟩:=h2;have K:∀b∈l.drop p,C2 x b=true:=by
  intro b hb;obtain⟨i,hi,rfl⟩:=List.mem_drop_iff_getElem.1 hb;have hc:=mX (x:=x) (l:=l) (m:=l.length) (i:=p+i) b9 b9;rw[List.getElem?_eq_getElem b9,Option.getD_some]at hc;have hv:=hl _ (List.getElem_mem (show p+i<l.length by omega))
  rcases iV hx hv with h1|h1
  ·exact h1
  ·unfold C2 at h1;rw[decide_eq_true hc]at h1;cases h1
 have htx:∀a∈l.take p,C2 a x=true:=by
  intro a ha;obtain⟨i,hi,rfl⟩:=List.mem_take_iff_getElem.1 ha;have F5:i<p:=by omega
  have Oe:p-1<l.length:=by omega
  have hc:=qZ (x:=x) (l:=l) (m:=l.length) b9;rw[<-hp,List.getElem?_eq_getElem Oe,Option.getD_some]at hc;have J:C2 l[p-1] x=true:=by unfold C2;rw[decide_eq_false hc];rfl
  by_cases Bb:i=p-1
  ·subst Bb;exact J
  ·have:=List.pairwise_iff_getElem.1 h i (p-1) b9 Oe b9;exact km (hl _ (List.getElem_mem _)) (hl _ (List.getElem_mem _)) hx this J
 unfold Gm;rw[<-hp,List.pairwise_append];refine⟨ht,List.pairwise_cons.2 ⟨K,hd⟩,fun a ha b hb=>?_⟩
 rcases List.mem_cons.1 hb with rfl|hb
 ·exact htx a ha
 ·exact G a ha b hb
theorem KP(hl:∀y∈l,o5 y=true)(hk:k<=l.length):∀y∈Ab l k,o5 y=true:=fun y hy =>
 hl y (List.mem_of_mem_take ((ky l k hk).mem_iff.1 hy))
theorem lz{l:List RR}(hl:∀y∈l,o5 y=true):∀k,k<=l.length->(Ab l k).Pairwise fun a b=>C2 a b=true
 | 0,_=>List.Pairwise.nil
 | k+1,h=>by
   rw[Ab];refine se ?_ (KP hl b9) (lz hl k b9);rw[List.getElem?_eq_getElem b9,Option.getD_some];exact hl _ (List.getElem_mem _)
theorem wD{m:List RR}(hl:∀y∈l,o5 y=true)(hp:m.Perm l)(hs:m.Pairwise fun a b=>C2 a b=true):m=Ak l:=by
 refine List.Perm.eq_of_pairwise (le:=fun a b=>C2 a b=true) (fun a b ha hb h1 h2=>qr (hl a (hp.mem_iff.1 ha)) (hl b ((kz l).mem_iff.1 hb)) h1 h2) hs (lz hl l.length (Nat.le_refl _)) (hp.trans (kz l).symm)
def Af(l:List RR):Nat->List RR
 | 0=>[]
 | k+1=>if 0<k/\l[k]?.getD (0,0)=l[k-1]?.getD (0,0) then Af l k else Af l k++[l[k]?.getD (0,0)]
theorem iN(h:0<k)(e:l[k]?.getD (0,0)=l[k-1]?.getD (0,0)):Af l (k+1)=Af l k:=by rw[Af,if_pos ⟨h,e⟩]
theorem iO(h:¬(0<k/\l[k]?.getD (0,0)=l[k-1]?.getD (0,0))):Af l (k+1)=Af l k++[l[k]?.getD (0,0)]:=by rw[Af,if_neg h]
theorem lB(l:List RR):∀k,(Af l k).length<=k
 | 0=>Nat.le_refl _
 | k+1=>by
   have:=lB l k;rw[Af]
   split
   ·omega
   ·simp;omega
structure Fe(l M:List RR)(i j:Nat):Prop where
 len:M.length=l.length
 lt:i<j
 pos:0<i
 jl:j<=l.length
 lo:M.take i=Af l j
 hi:∀k,i<=k->M[k]?.getD (0,0)=l[k]?.getD (0,0)
theorem Fe.start(hk:0<k)(hl:k<l.length)(ht:Af l k=l.take k)(he:l[k]?.getD (0,0)=l[k-1]?.getD (0,0)):Fe l l k (k+1) :=
 ⟨rfl,by omega,hk,by omega,by rw[iN hk he,ht],fun _ _=>rfl⟩
theorem Fe.drop{M:List RR}{i j:Nat}(h:Fe l M i j)(hj:j<l.length)(he:l[j]?.getD (0,0)=l[j-1]?.getD (0,0)):Fe l M i (j+1) :=
 ⟨h.len,by have:=h.lt;omega,h.pos,by omega,by rw[iN (by have:=h.lt;have:=h.pos;omega) he,h.lo],h.hi⟩
theorem Fe.keep{M:List RR}{i j:Nat}(h:Fe l M i j)(hj:j<l.length)(he:¬l[j]?.getD (0,0)=l[j-1]?.getD (0,0)):Fe l (M.set i (l[j]?.getD (0,0))) (i+1) (j+1):=by
 have hi:i<M.length:=by have:=h.lt;have:=h.len;omega
 refine⟨by rw[List.length_set];exact h.len,by have:=h.lt;omega,by omega,by omega,?_,fun k hk=>?_⟩
 ·rw[iO (fun h'=>he h'.2),<-h.lo,List.take_succ_eq_append_getElem (by rw[List.length_set];exact hi),List.take_set_of_le (Nat.le_refl _),List.getElem_set_self]
 ·rw[List.getElem?_set_ne b9];exact h.hi k b9
theorem kg(hl:k<l.length)(ht:Af l k=l.take k)(he:k=0∨¬l[k]?.getD (0,0)=l[k-1]?.getD (0,0)):Af l (k+1)=l.take (k+1):=by
 rw[iO (fun h'=>by
    rcases he with h0|h0;· omega
    ·exact h0 h'.2),ht,jW hl]
def zp(l:List RR)(e:RR):Nat->j9
 | 0=>[]
 | k+1=>if wU (l[k]?.getD (0,0)) e<0 then zp l e k else zp l e k++[((k+1:Nat):Int)]
theorem iX{e:RR}(h:wU (l[k]?.getD (0,0)) e<0):zp l e (k+1)=zp l e k:=by rw[zp,if_pos h]
theorem iY{e:RR}(h:¬wU (l[k]?.getD (0,0)) e<0):zp l e (k+1)=zp l e k++[((k+1:Nat):Int)]:=by rw[zp,if_neg h]
theorem iB(l:List RR)(e:RR):∀k,(zp l e k).length<=k
 | 0=>Nat.le_refl _
 | k+1=>by
   have:=iB l e k;rw[zp]
   split
   ·omega
   ·simp;omega
def CD(l:List RR)(k:Nat):j7:=(Af (Ak l) k).map fun e=>zp l e l.length
def C9(l:List RR):j7:=CD l l.length
theorem vz(h:0<k)(e:(Ak l)[k]?.getD (0,0)=(Ak l)[k-1]?.getD (0,0)):CD l (k+1)=CD l k:=by unfold CD;rw[iN h e]
theorem oV(h:¬(0<k/\(Ak l)[k]?.getD (0,0)=(Ak l)[k-1]?.getD (0,0))):CD l (k+1)=CD l k++[zp l ((Ak l)[k]?.getD (0,0)) l.length]:=by unfold CD;rw[iO h,List.map_append];rfl
theorem qN(l:List RR)(k:Nat):(CD l k).length<=k:=by unfold CD;rw[List.length_map];exact lB _ _
theorem fk(l:List RR):(Ak l).length=l.length:=jV l _
def Cd(p:Int)(V:j9)(X:List RR):j7:=C9 ((yj p V X).getD [])
theorem oU{p:Int}(h:yj p V X=none):Cd p V X=[]:=by unfold Cd;rw[h];rfl
theorem iZ{p:Int}(h:yj p V X=some l):Cd p V X=C9 l:=by unfold Cd;rw[h];rfl
theorem Nd{s:Nat}(h:yU V X s=some x):o5 x=true:=by
 unfold yU at h;cases hs:bH X s with
 | none=>rw[hs]at h;cases h
 | some r =>
   rw[hs]at h;change Dh _ r=some x at h;unfold Dh at h
   split at h
   ·next h1 =>
    simp only[Option.some.injEq]at h;rw[<-h];unfold xy at h1⊢
    split
    ·next h2=>rw[if_pos h2]at h1;exact hJ h1
    ·next h2=>rw[if_neg h2]at h1;cases h1
   ·cases h
theorem Ld{f:Nat->Option RR}{r:List RR}(h:runT f m=some r){P:RR->Prop}(hf:∀i x,f i=some x->P x):∀x∈r,P x:=by
 intro x hx;obtain⟨i,hi,rfl⟩:=List.mem_iff_getElem.1 hx;have hl:=cU h;have:=gN h i b9;rw[List.getElem?_eq_getElem hi,Option.getD_some]at this;exact hf i _ this
theorem pT{p:Int}(h:yj p V X=some l):∀y∈l,o5 y=true:=by
 have hp:=(cJ h).1;rw[ji hp]at h;exact Ld h fun i x hx=>Nd hx
theorem tl{X:j6}{s:Nat}:∀{j:Nat} {r:k5},zg X (AI (s:Int) j) (0,1)=some r->val r=o0 (fun k=>val (X[k]?.getD (0,0))*((wL (bit (s:Int) k):Int):Rat)) j/\o5 r=true
 | 0,r,h=>by
   have e:r=(0,1):=by
    have:AI (s:Int) 0=[]:=rfl;rw[this]at h;exact(Option.some.inj h).symm
   subst e;exact⟨bp 0,by decide⟩
 | j+1,r,h=>by
   rw[fN,fC]at h;cases h0:zg X (AI (s:Int) j) (0,1)with
   | none=>rw[h0]at h;cases h
   | some a =>
     obtain⟨i1,i2⟩:=tl h0;rw[h0]at h;change zg X _ a=some r at h;simp only[o0];cases hb:bit (s:Int) j with
     | false =>
       rw[hb,if_neg e7]at h;have e:a=r:=Option.some.inj h;subst e;refine⟨?_,i2⟩;rw[i1];have e0:((wL false:Int):Rat)=0:=rfl;rw[e0]
       grind
     | true =>
       rw[hb,if_pos rfl]at h;simp only[zg]at h
       split at h
       ·cases h
       ·split at h
        ·next hf =>
         have e:=Option.some.inj h;rw[Int.toNat_natCast]at hf e;obtain⟨a1,a2,a3,a4⟩:=jw hf;rw[<-e];refine⟨?_,a3⟩;rw[a4,i1];have e0:((wL true:Int):Rat)=1:=rfl;rw[e0]
         grind
        ·cases h
theorem oN:∀n:Fin 6,∀s:Fin 32,∀k:Fin 5,s.val<cN n.val->n.val<=k.val->bit ((s.val:Nat):Int) k.val=false:=by decide +kernel
theorem jT{X:j6}{q s:Nat}(hq:q<=5)(hs:s<cN q){r:k5}(h:bH X s=some r):val r=zs q (fun i=>val (X[i]?.getD (0,0))) (s:Int)/\o5 r=true:=by
 have hc:cN q<=32:=by
  have:∀n:Fin 6,cN n.val<=32:=by decide
  exact this ⟨q,by omega⟩
 obtain⟨h1,h2⟩:=tl h;refine⟨?_,h2⟩;rw[h1];obtain⟨d,hd⟩:∃d,5=q+d:=⟨5-q,by omega⟩
 rw[hd,gu d (fun k k1 k2=>by
  have:=oN ⟨q,by omega⟩ ⟨s,by omega⟩ ⟨k,by omega⟩ hs k1;have this:bit (s:Int) k=false:=this;rw[this]
  show _*((0:Int):Rat)=0;have e0:((0:Int):Rat)=0:=rfl
  rw[e0];grind)]
 unfold zs;exact aq fun k hk=>by rw[iw _ _ b9 b9]
theorem pR{p:Int}{X:j6}{l:j6}(h:yj p V X=some l):l.map val=FK p.toNat V (fun i=>val (X[i]?.getD (0,0))):=by
 obtain⟨hp,hl⟩:=cJ h;obtain⟨hg,Vh,_,_⟩:=gn hp;obtain⟨q,xk,Au,Dq,hV,_⟩:=aW hg;rw[ji hp]at h;unfold Di at h;have G:p.toNat=q:=by omega
 refine List.ext_getElem ?_ fun i h1 h2=>?_
 ·unfold FK yk;simp[hl]
 ·rw[List.length_map]at h1;have ha:=gN h i b9;rw[List.getElem?_eq_getElem h1,Option.getD_some]at ha;unfold yU at ha;cases hs:bH X (1+i)with
  | none=>rw[hs]at ha;cases ha
  | some r =>
    rw[hs]at ha;change Dh _ r=some l[i]at ha;obtain⟨r1,r2⟩:=jT Dq (show 1+i<cN q by omega) hs;unfold Dh at ha
    split at ha
    ·next hf =>
     have e:=Option.some.inj ha;obtain⟨a1,a2,a3,a4⟩:=fW hf;rw[List.getElem_map,<-e,a4,bp,r1];have e4:(FK p.toNat V (fun i=>val (X[i]?.getD (0,0))))[i]=xx p.toNat V (fun i=>val (X[i]?.getD (0,0))) (1+(i:Int)):=by
      simp[FK,yk]
     rw[e4];unfold xx;rw[G];have e2:((1:Int)+(i:Int)).toNat=1+i:=by omega
     have e3:((1+i:Nat):Int)=1+(i:Int):=by omega
     rw[e2,e3]
    ·cases ha
theorem kr{p:Int}{X:j6}(hp:ye p V X=true):eP p.toNat V [] (fun i=>val (X[i]?.getD (0,0))):=by
 obtain⟨hg,Vh,_,DC⟩:=gn hp;obtain⟨q,xk,Au,Dq,hV,_⟩:=aW hg;have EH:=cu q Dq;have G:p.toNat=q:=by omega
 refine⟨?_,fun f hf=>by cases hf⟩;obtain⟨r1,_⟩:=jT Dq (show V.length-1<cN q by omega) DC;unfold xx;have e2:((V.length:Int)-1).toNat=V.length-1:=by omega
 have e3:(V.length:Int)-1=((V.length-1:Nat):Int):=by omega
 rw[e2,e3,G,<-r1,ez hg,bp]
 grind
def BW(n:Nat)(z:Nat->Rat)(r:j9):Rat:=o0 (fun j=>((r[j]?.getD 0:Int):Rat)*z j) n
theorem Le{c:Nat}{p r:j9}(hr:r.length=n)(h1:BW n z p=0)(h2:BW n z r=0):BW n z (xh c p r)=0:=by
 have e:BW n z (xh c p r)=((p[c]?.getD 0:Int):Rat)*BW n z r+(-((r[c]?.getD 0:Int):Rat))*BW n z p:=by
  unfold BW;rw[<-cK,<-dd];refine aq fun j hj=>?_
  rw[fO b9,Rat.intCast_sub,Rat.intCast_mul,Rat.intCast_mul]
  grind
 rw[e,h1,h2]
 grind
theorem nv{n:Nat}{z:Nat->Rat}{M:j7}(hz:∀i,i<n->BW n z (M[i]?.getD [])=0)(hd:∀i,i<n->(M[i]?.getD [])[i]?.getD 0≠0)(h0:∀i j,i<n->j<i->(M[i]?.getD [])[j]?.getD 0=0):∀d,d<=n->∀k,n-d<=k->k<n->z k=0
 | 0,_,k,h1,h2=>by omega
 | d+1,hdn,k,h1,h2=>by
   have ih:=nv hz hd h0 d b9;by_cases hk:n-d<=k
   ·exact ih k hk h2
   ·have e:=hz k h2;unfold BW at e
    rw[cV h2 (fun j hj hne=>by
     by_cases PX:j<k
     ·rw[h0 k j h2 PX];have e0:((0:Int):Rat)=0:=rfl;rw[e0];grind
     ·rw[ih j b9 hj];grind)]at e
    have hne:(((M[k]?.getD [])[k]?.getD 0:Int):Rat)≠0:=by
     intro h;exact hd k h2 (by exact_mod_cast h)
    rcases Rat.mul_eq_zero.1 e with h|h
    ·exact absurd h hne
    ·exact h
structure Steps(n:Nat)(z:Nat->Rat)(m c:Nat)(T:j7):Prop where
 len:T.length=m
 cm:c<=m
 wid:∀i,i<m->(T[i]?.getD []).length=n
 Z':∀i,i<m->BW n z (T[i]?.getD [])=0
 dia:∀i,i<c->(T[i]?.getD [])[i]?.getD 0≠0
 low:∀i j,i<m->j<i->j<c->(T[i]?.getD [])[j]?.getD 0=0
theorem uC{c:Nat}{T:j7}(h:Steps n z m c T)(hc:c<n)(hp:ym T c c<T.length):Steps n z m (c+1) (zG xh c (swp T c (ym T c c)) c T.length):=by
 obtain⟨p1,p2,_⟩:=ed hp;obtain⟨q,hq⟩:=b8 (ym T c c);rw[<-hq]at hp p1 p2⊢;have hl:=h.len;have Eb:c<m:=by omega
 have hS:∀i,(swp T c q)[i]?.getD []=if i=q then T[c]?.getD [] else if i=c then T[q]?.getD [] else T[i]?.getD []:=fun i=>hU b9 b9 i
 have G8:∀i,i<m->((swp T c q)[i]?.getD []).length=n:=fun i hi=>by
  rw[hS];split
  ·exact h.wid c Eb
  ·split
   ·exact h.wid q b9
   ·exact h.wid i hi
 have hSa:∀i,i<m->BW n z ((swp T c q)[i]?.getD [])=0:=fun i hi=>by
  rw[hS];split
  ·exact h.Z' c Eb
  ·split
   ·exact h.Z' q b9
   ·exact h.Z' i hi
 have hSl:∀i j,i<m->j<i->j<c->((swp T c q)[i]?.getD [])[j]?.getD 0=0:=fun i j hi JB MD=>by
  rw[hS];split
  ·exact h.low c j Eb MD MD
  ·split
   ·exact h.low q j b9 b9 MD
   ·exact h.low i j hi JB MD
 have hSc:((swp T c q)[c]?.getD [])[c]?.getD 0≠0:=by
  rw[hS];by_cases e:c=q
  ·rw[if_pos e];rw[<-e]at p2;exact p2
  ·rw[if_neg e,if_pos rfl];exact p2
 have hR:∀i,i<m->(zG xh c (swp T c q) c T.length)[i]?.getD []=if c<i/\i<T.length then xh c ((swp T c q)[c]?.getD []) ((swp T c q)[i]?.getD []) else(swp T c q)[i]?.getD []:=fun i hi=>fP xh c _ c T.length (by rw[cL];omega)
 refine⟨by rw[dz,cL,hl],by omega,fun i hi=>?_,fun i hi=>?_,fun i hi=>?_,fun i j hi JB MD=>?_⟩
 ·rw[hR i hi];split
  ·rw[em];exact G8 i hi
  ·exact G8 i hi
 ·rw[hR i hi];split
  ·exact Le (G8 i hi) (hSa c Eb) (hSa i hi)
  ·exact hSa i hi
 ·rw[hR i b9,if_neg b9];by_cases e:i=c
  ·subst e;exact hSc
  ·rw[hS,if_neg b9,if_neg e];exact h.dia i b9
 ·rw[hR i hi]
  split
  ·rw[fO (by rw[G8 i hi];omega)];by_cases e:j=c
   ·subst e;rw[Int.mul_comm];omega
   ·rw[hSl i j hi JB b9,hSl c j Eb b9 b9];simp
  ·have:i<=c:=by omega
   exact hSl i j hi JB b9
theorem Lc(M:j7):∀n,(runM xh M n).2<=n
 | 0=>Nat.le_refl _
 | n+1=>by
   have ih:=Lc M n;unfold runM Ao
   split
   ·show(runM xh M n).2+1<=n+1;omega
   ·omega
theorem pw{n:Nat}{z:Nat->Rat}{M:j7}(hw:∀i,i<M.length->(M[i]?.getD []).length=n)(hz:∀i,i<M.length->BW n z (M[i]?.getD [])=0):∀c,c<=n->(runM xh M c).2=c->Steps n z M.length c (runM xh M c).1
 | 0,_,_=>⟨rfl,Nat.zero_le _,hw,hz,fun i hi=>by omega,fun i j _ _ hj=>by omega⟩
 | c+1,hc,he=>by
   have hle:=Lc M c;unfold runM Ao at he⊢
   split at he
   ·next hp =>
    have e:(runM xh M c).2=c:=by
     have:(runM xh M c).2+1=c+1:=he;omega
    have ih:=pw hw hz c b9 e;rw[if_pos hp];rw[e]at hp⊢;exact uC ih b9 hp
   ·omega
theorem ve{M:j7}(hw:∀i,i<M.length->(M[i]?.getD []).length=n)(hz:∀i,i<M.length->BW n z (M[i]?.getD [])=0)(hr:(runM xh M n).2=n):∀k,k<n->z k=0:=by
 have h:=pw hw hz n (Nat.le_refl _) hr;have Eb:=h.cm;exact fun k hk=>nv (fun i hi=>h.Z' i b9) h.dia (fun i j hi hj=>h.low i j b9 hj b9) n (Nat.le_refl _) k b9 hk
end Go.Proofs.YtalmoolkhcgmmaaGreat
