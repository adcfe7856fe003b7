import Derived.Lib.ItoaNum
import Derived.Shelf.Strconv.Itoa3
import Derived.Test.YtdadoignenffgaaGreatDoorProg
import Derived.WalkKit
import Derived.WalkSpells
import Derived.WalkLawsBesides
import Derived.Lib.Hide
import Derived.Deep.QuietTactic
import Derived.BigQuiet
import Derived.Deep.RegionHeld3
set_option linter.unusedVariables false
set_option linter.unusedSimpArgs false
namespace Go.Proofs.YtdadoignenffgaaGreatDoor
abbrev j8:=Int×Int
abbrev j7:=List Int
abbrev j6:=Option Addr
abbrev j5:=List (List Int)
abbrev j4:=List (Int×Int)
abbrev j2:=List (Int×Int×Int)
theorem j1{Q P:Prop}(q:Q)(h:Q->P:=by intro this;omega):P:=h q
theorem j0{P:Prop}(h:P:=by rfl):P:=h
theorem e9{P:Prop}(h:P:=by kernel_rfl):P:=h
theorem e8{P:Prop}(h:P:=by simp):P:=h
theorem e7{P:Prop}(h:P:=by omega):P:=h
theorem b9{α:Sort _}(a:α):∃x,x=a:=⟨a,rfl⟩
def b7(p:Prop):Prop:=p
theorem b7.o{p:Prop}(h:b7 p):p:=h
theorem b7.out{p:Prop}(h:b7 p):p:=h
variable{α:Type}{l:j7}{c:UInt8}{b k base n i:Nat}{w w':World}{v:Value}{P:World->Prop}{t:TypeId}
theorem lN{l:List α}(h:l≠[]):0<l.length:=List.length_pos_iff.2 h
def bV(c:UInt8):Bool:=decide (48<=c.toNat/\c.toNat<=57)
def vM(l:List UInt8):Nat:=l.foldl (fun n c=>10*n+(c.toNat-48)) 0
theorem fS(l:List UInt8)(c:UInt8):vM (l++[c])=10*vM l+(c.toNat-48):=by unfold vM;rw[List.foldl_append];rfl
theorem rO:∀l:List UInt8,l.all bV=true->vM l<10^l.length:=by
 intro l
 induction hl:l.length generalizing l with
 | zero=>intro _;obtain rfl:=List.eq_nil_of_length_eq_zero hl;decide
 | succ n ih =>
   intro h;obtain⟨m,c,rfl⟩:∃m c,l=m++[c]:=⟨l.dropLast,l.getLast (by intro e;rw[e]at hl;cases hl),(List.dropLast_concat_getLast _).symm⟩;rw[List.length_append]at hl;rw[List.all_append,Bool.and_eq_true]at h;have h1:=ih m (by simpa using hl) h.1;have h2:bV c=true:=by simpa using h.2
   unfold bV at h2;have h2:=of_decide_eq_true h2;rw[fS,Nat.pow_succ];omega
theorem KK(h:bV c=true):UInt8.ofNat (48+(c.toNat-48))=c:=by
 unfold bV at h;have h:=of_decide_eq_true h;rw[show 48+(c.toNat-48)=c.toNat by omega];exact UInt8.ofNat_toNat
def lk(l:List UInt8):Prop:=l.length=1∨l[0]?≠some 48
theorem IN:∀{l:List UInt8},l.all bV=true->l≠[]->l[0]?≠some 48->1<=vM l:=by
 intro l
 induction hl:l.length generalizing l with
 | zero=>intro _ h _;exact absurd (List.eq_nil_of_length_eq_zero hl) h
 | succ n ih =>
   intro h _ h0;obtain⟨m,c,rfl⟩:∃m c,l=m++[c]:=⟨l.dropLast,l.getLast (by intro e;rw[e]at hl;cases hl),(List.dropLast_concat_getLast _).symm⟩;rw[List.length_append]at hl;rw[List.all_append,Bool.and_eq_true]at h;rw[fS];by_cases hm:m=[]
   ·subst hm;have h2:bV c=true:=by simpa using h.2
    unfold bV at h2;have h2:=of_decide_eq_true h2
    have:c.toNat≠48:=fun e=>h0 (by
     have:c=48:=UInt8.toNat_inj.1 (by rw[e];rfl)
     rw[this];rfl)
    omega
   ·have:=ih (l:=m) (by simpa using hl) h.1 hm (by
     rw[List.getElem?_append_left (lN hm)]at h0;exact h0)
    omega
theorem mp:∀{l:List UInt8},l.all bV=true->l≠[]->lk l->Lib.decDigits (vM l)=l:=by
 intro l
 induction hl:l.length generalizing l with
 | zero=>intro _ h _;exact absurd (List.eq_nil_of_length_eq_zero hl) h
 | succ n ih =>
   intro h _ hc;obtain⟨m,c,rfl⟩:∃m c,l=m++[c]:=⟨l.dropLast,l.getLast (by intro e;rw[e]at hl;cases hl),(List.dropLast_concat_getLast _).symm⟩;rw[List.length_append]at hl;rw[List.all_append,Bool.and_eq_true]at h;have h2:bV c=true:=by simpa using h.2
   have hb:=KK h2;unfold bV at h2;have h2:=of_decide_eq_true h2;rw[fS];by_cases hm:m=[]
   ·subst hm;rw[show vM []=0 from rfl,Lib.decDigits,dif_pos e7];rw[show 48+(10*0+(c.toNat-48))=48+(c.toNat-48)by omega,hb];rfl
   ·have h0:m[0]?≠some 48:=by
     rcases hc with h3|h3
     ·rw[List.length_append,List.length_singleton]at h3;have:=lN hm;omega
     ·rw[List.getElem?_append_left (lN hm)]at h3;exact h3
    have hp:=IN h.1 hm h0;rw[Lib.decDigits,dif_neg e7,show(10*vM m+(c.toNat-48))/10=vM m by omega,show 48+(10*vM m+(c.toNat-48)) % 10=48+(c.toNat-48)by omega,hb,ih (l:=m) (by simpa using hl) h.1 hm (Or.inr h0)]
theorem fM:∀n:Nat,lk (Lib.decDigits n)/\Lib.decDigits n≠[]
 | n=>by
   by_cases h:n<10
   ·rw[Lib.decDigits,dif_pos h];exact⟨Or.inl rfl,by simp⟩
   ·rw[Lib.decDigits,dif_neg h];have ih:=fM (n/10);have E:=lN ih.2;refine⟨Or.inr ?_,by simp⟩;rw[List.getElem?_append_left E]
    rcases ih.1 with h1|h1
    ·-- one digit: not a zero
     by_cases h2:n/10<10
     ·rw[Lib.decDigits,dif_pos h2];intro e;simp only[List.getElem?_cons_zero,Option.some.injEq]at e;have e2:=congrArg UInt8.toNat e;rw[UInt8.toNat_ofNat']at e2;have:(48:UInt8).toNat=48:=rfl;omega
     ·rw[Lib.decDigits,dif_neg h2,List.length_append,List.length_singleton]at h1;have:=lN (fM (n/10/10)).2;omega
    ·exact h1
def aq(l:List UInt8)(most:Nat):Int:=if(1<=l.length/\l.length<=most)/\(l.length<=1∨l[0]?≠some 48)/\l.all bV=true then(vM l:Int) else -1
def dw(l:List UInt8):Option Int :=
 if l[0]?=some 45 then(if 1<=aq (l.drop 1) 12 then some (-(aq (l.drop 1) 12)) else none) else if 0<=aq l 12 then some (aq l 12) else none
def eD(l:List UInt8)(most:Nat):Option Int :=
 if(1<=(if l[0]?=some 45 then l.drop 1 else l).length/\(if l[0]?=some 45 then l.drop 1 else l).length<=most)/\(if l[0]?=some 45 then l.drop 1 else l).all bV=true/\Lib.itoa (if l[0]?=some 45 then -(vM (l.drop 1):Int) else(vM l:Int))=l
 then some (if l[0]?=some 45 then -(vM (l.drop 1):Int) else(vM l:Int)) else none
theorem Kj{l:List UInt8}(h:l[0]?=some 45):l=45::l.drop 1:=by
 cases l with
 | nil=>cases h
 | cons c l=>simp only[List.getElem?_cons_zero,Option.some.injEq]at h;rw[h];rfl
theorem jk(n:Nat):(Lib.decDigits n)[0]?≠some 45:=by
 intro h;have zF:∀m:Nat,∀c∈Lib.decDigits m,48<=c.toNat:=by
  intro m
  induction m using Nat.strongRecOn with
  | _ m ih =>
    intro c hc;by_cases h:m<10
    ·rw[Lib.decDigits,dif_pos h,List.mem_singleton]at hc;rw[hc,UInt8.toNat_ofNat'];omega
    ·rw[Lib.decDigits,dif_neg h,List.mem_append,List.mem_singleton]at hc
     rcases hc with hc|hc
     ·exact ih (m/10) e7 c hc
     ·rw[hc,UInt8.toNat_ofNat'];omega
 have:=zF n 45 (List.mem_of_getElem? h);exact absurd this (by decide)
theorem ux(l:List UInt8):eD l 12=dw l:=by
 unfold eD dw;by_cases hm:l[0]?=some 45
 ·simp only[if_pos hm];have hl:=Kj hm;obtain⟨t,ht⟩:=b9 (l.drop 1);rw[<-ht]at hl⊢;by_cases hd:(1<=t.length/\t.length<=12)/\t.all bV=true
  ·obtain⟨⟨h1,h2⟩,h3⟩:=hd;have hne:t≠[]:=fun e=>by rw[e]at h1;simp at h1
   by_cases hc:t.length<=1∨t[0]?≠some 48
   ·have hr:aq t 12=(vM t:Int):=by unfold aq;rw[if_pos ⟨⟨h1,h2⟩,hc,h3⟩]
    rw[hr];have Kq:lk t:=by
     rcases hc with hc|hc
     ·exact Or.inl e7
     ·exact Or.inr hc
    by_cases h0:1<=vM t
    ·have h6:Lib.itoa (-(vM t:Int))=l:=by
      unfold Lib.itoa;rw[if_pos e7,Int.natAbs_neg,Int.natAbs_natCast,mp h3 hne Kq,<-hl]
     rw[if_pos (show(1:Int)<=(vM t:Int)by omega),if_pos ⟨⟨h1,h2⟩,h3,h6⟩]
    ·rw[if_neg (show¬(1:Int)<=(vM t:Int)by omega),if_neg];rintro⟨_,_,h5⟩;unfold Lib.itoa at h5;rw[if_neg e7]at h5;rw[hl]at h5;have:=jk (-(vM t:Int)).toNat;rw[h5]at this;exact this rfl
   ·have hr:aq t 12=-1:=by unfold aq;rw[if_neg (fun h=>hc h.2.1)]
    rw[hr,if_neg (show¬(1:Int)<=-1 by omega),if_neg];rintro⟨_,_,h5⟩;unfold Lib.itoa at h5
    split at h5
    ·rw[Int.natAbs_neg,Int.natAbs_natCast,hl,List.cons.injEq]at h5;have:=(fM (vM t)).1;rw[h5.2]at this
     rcases this with h6|h6
     ·exact hc (Or.inl e7)
     ·exact hc (Or.inr h6)
    ·rw[hl]at h5;have:=jk (-(vM t:Int)).toNat;rw[h5]at this;exact this rfl
  ·have hr:aq t 12=-1:=by unfold aq;rw[if_neg (fun h=>hd ⟨h.1,h.2.2⟩)]
   rw[hr,if_neg (show¬(1:Int)<=-1 by omega),if_neg (fun h=>hd ⟨h.1,h.2.1⟩)]
 ·simp only[if_neg hm];by_cases hd:(1<=l.length/\l.length<=12)/\l.all bV=true
  ·obtain⟨⟨h1,h2⟩,h3⟩:=hd;have hne:l≠[]:=fun e=>by rw[e]at h1;simp at h1
   have M8:Lib.itoa (vM l:Int)=Lib.decDigits (vM l):=by unfold Lib.itoa;rw[if_neg e7,Int.toNat_natCast]
   rw[M8];by_cases hc:l.length<=1∨l[0]?≠some 48
   ·have hr:aq l 12=(vM l:Int):=by unfold aq;rw[if_pos ⟨⟨h1,h2⟩,hc,h3⟩]
    have Kq:lk l:=by
     rcases hc with hc|hc
     ·exact Or.inl e7
     ·exact Or.inr hc
    rw[hr,if_pos (show(0:Int)<=(vM l:Int)by omega),if_pos ⟨⟨h1,h2⟩,h3,mp h3 hne Kq⟩]
   ·have hr:aq l 12=-1:=by unfold aq;rw[if_neg (fun h=>hc h.2.1)]
    rw[hr,if_neg (show¬(0:Int)<=-1 by omega),if_neg];rintro⟨_,_,h5⟩;have:=(fM (vM l)).1;rw[h5]at this
    rcases this with h6|h6
    ·exact hc (Or.inl e7)
    ·exact hc (Or.inr h6)
  ·have hr:aq l 12=-1:=by unfold aq;rw[if_neg (fun h=>hd ⟨h.1,h.2.2⟩)]
   rw[hr,if_neg (show¬(0:Int)<=-1 by omega),if_neg (fun h=>hd ⟨h.1,h.2.1⟩)]
theorem kN(l:List UInt8):(eD l 6).bind (fun n=>if n<0 then none else some n)=if 0<=aq l 6 then some (aq l 6) else none:=by
 unfold eD;by_cases hm:l[0]?=some 45
 ·simp only[if_pos hm];have hr:aq l 6=-1:=by
   unfold aq;rw[if_neg];rintro⟨_,_,h3⟩;rw[Kj hm,List.all_cons,Bool.and_eq_true]at h3;exact absurd h3.1 (by decide)
  rw[hr,if_neg (show¬(0:Int)<=-1 by omega)]
  split
  ·next h =>
   rw[Option.bind_some];by_cases h0:-(vM (l.drop 1):Int)<0
   ·rw[if_pos h0]
   ·exfalso
    have h5:=h.2.2;unfold Lib.itoa at h5;rw[if_neg h0]at h5;have:=jk (-(vM (l.drop 1):Int)).toNat;rw[h5]at this;exact this hm
  ·rfl
 ·simp only[if_neg hm];by_cases hd:(1<=l.length/\l.length<=6)/\l.all bV=true
  ·obtain⟨⟨h1,h2⟩,h3⟩:=hd;have hne:l≠[]:=fun e=>by rw[e]at h1;simp at h1
   have M8:Lib.itoa (vM l:Int)=Lib.decDigits (vM l):=by unfold Lib.itoa;rw[if_neg e7,Int.toNat_natCast]
   rw[M8];by_cases hc:l.length<=1∨l[0]?≠some 48
   ·have hr:aq l 6=(vM l:Int):=by unfold aq;rw[if_pos ⟨⟨h1,h2⟩,hc,h3⟩]
    have Kq:lk l:=by
     rcases hc with hc|hc
     ·exact Or.inl e7
     ·exact Or.inr hc
    rw[hr,if_pos (show(0:Int)<=(vM l:Int)by omega),if_pos ⟨⟨h1,h2⟩,h3,mp h3 hne Kq⟩,Option.bind_some,if_neg e7]
   ·have hr:aq l 6=-1:=by unfold aq;rw[if_neg (fun h=>hc h.2.1)]
    rw[hr,if_neg (show¬(0:Int)<=-1 by omega),if_neg]
    ·rfl
    ·rintro⟨_,_,h5⟩;have:=(fM (vM l)).1;rw[h5]at this
     rcases this with h6|h6
     ·exact hc (Or.inl e7)
     ·exact hc (Or.inr h6)
  ·have hr:aq l 6=-1:=by unfold aq;rw[if_neg (fun h=>hd ⟨h.1,h.2.2⟩)]
   rw[hr,if_neg (show¬(0:Int)<=-1 by omega),if_neg (fun h=>hd ⟨h.1,h.2.1⟩)]
   rfl
def wN(c:UInt8)(l:List UInt8):Nat->List (List UInt8)×Nat
 | 0=>([],0)
 | i+1=>if l[i]?.getD 0=c then((wN c l i).1++[(l.take i).drop (wN c l i).2],i+1) else wN c l i
def vV(c:UInt8)(l:List UInt8):List (List UInt8):=(wN c l l.length).1++[l.drop (wN c l l.length).2]
theorem jQ(c:UInt8)(l:List UInt8):∀i,(wN c l i).2<=i/\(wN c l i).1.length<=i
 | 0=>⟨Nat.le_refl _,Nat.le_refl _⟩
 | i+1=>by
   have ih:=jQ c l i;unfold wN
   split
   ·refine⟨Nat.le_refl _,?_⟩;rw[List.length_append,List.length_singleton];omega
   ·omega
theorem kW(c:UInt8)(l:List UInt8):1<=(vV c l).length:=by unfold vV;rw[List.length_append,List.length_singleton];omega
theorem jF{c:UInt8}{l:List UInt8}:∀i,i<=l.length->(∀k,k<i->l[k]?.getD 0≠c)->wN c l i=([],0)
 | 0,_,_=>rfl
 | i+1,hi,h=>by
   unfold wN;rw[if_neg (h i e7)];exact jF i e7 fun k hk=>h k e7
theorem kV{l:List UInt8}(h:c∉l):vV c l=[l]:=by
 unfold vV;rw[jF l.length (Nat.le_refl _) fun k hk e=>h (by rw[<-e,List.getElem?_eq_getElem hk,Option.getD_some];exact List.getElem_mem hk)]
 rfl
theorem qe{c:UInt8}{a b:List UInt8}(h:c∉a):∀j,j<=b.length->wN c (a++c::b) (a.length+1+j)=(a::(wN c b j).1,a.length+1+(wN c b j).2)
 | 0,_=>by
   have hn:wN c (a++c::b) a.length=([],0):=jF a.length (by rw[List.length_append];omega) fun k hk e=>h (by
    rw[List.getElem?_append_left hk,List.getElem?_eq_getElem hk,Option.getD_some]at e
    rw[<-e];exact List.getElem_mem hk)
   show wN c (a++c::b) (a.length+1)=_;unfold wN;rw[if_pos (by rw[List.getElem?_append_right (Nat.le_refl _)];simp),hn];simp
 | j+1,hj=>by
   have ih:=qe (a:=a) (b:=b) h j e7;rw[show a.length+1+(j+1)=(a.length+1+j)+1 by omega];unfold wN;have e:(a++c::b)[a.length+1+j]?.getD 0=b[j]?.getD 0:=by
    rw[List.getElem?_append_right e7,show a.length+1+j-a.length=j+1 by omega,List.getElem?_cons_succ]
   rw[e,ih];by_cases hc:b[j]?.getD 0=c
   ·rw[if_pos hc,if_pos hc];have e2:((a++c::b).take (a.length+1+j)).drop (a.length+1+(wN c b j).2)=(b.take j).drop (wN c b j).2:=by
     rw[show a.length+1+j=a.length+(1+j)by omega,List.take_length_add_append,show a.length+1+(wN c b j).2=a.length+(1+(wN c b j).2)by omega,List.drop_length_add_append,show 1+j=j+1 by omega,List.take_succ_cons,show 1+(wN c b j).2=(wN c b j).2+1 by omega,List.drop_succ_cons]
    simp only;rw[e2,show a.length+1+(j+1)=a.length+1+j+1 by omega]
    rfl
   ·rw[if_neg hc,if_neg hc]
theorem qb{a b:List UInt8}(h:c∉a):vV c (a++c::b)=a::vV c b:=by
 unfold vV;have hl:(a++c::b).length=a.length+1+b.length:=by rw[List.length_append,List.length_cons];omega
 rw[hl,qe h b.length (Nat.le_refl _)];simp only[List.cons_append,List.cons.injEq,true_and];rw[show a.length+1+(wN c b b.length).2=a.length+((wN c b b.length).2+1)by omega,List.drop_length_add_append,List.drop_succ_cons]
theorem jo{c:UInt8}:∀{l:List UInt8},c∈l->∃a b,l=a++c::b/\c∉a
 | [],h=>by cases h
 | x::l,h=>by
   by_cases e:x=c
   ·exact⟨[],l,by rw[e];rfl,by simp⟩
   ·have hl:c∈l:=by
     rcases List.mem_cons.1 h with h|h
     ·exact absurd h.symm e
     ·exact h
    obtain⟨a,b,e1,e2⟩:=jo hl;refine⟨x::a,b,by rw[e1];rfl,fun h2=>?_⟩
    rcases List.mem_cons.1 h2 with h2|h2
    ·exact e h2.symm
    ·exact e2 h2
theorem IU{l:List UInt8}(h:(vV c l).length=1):c∉l:=fun hm=>by
 obtain⟨a,b,rfl,hn⟩:=jo hm;rw[qb hn,List.length_cons]at h;have:=kW c b;omega
def DX:List UInt8:=[112,108,97,121,101,114,115]
def cQ(l:List UInt8):Option Int:=if l.take 8=DX++[32] then(if 0<=aq (l.drop 8) 6 then(if 1<=aq (l.drop 8) 6/\aq (l.drop 8) 6<=5 then some (aq (l.drop 8) 6) else none) else none) else none
def oO(l:List UInt8):Option Int :=
 if(vV 32 l).length=2/\(vV 32 l)[0]?.getD []=DX then((eD ((vV 32 l)[1]?.getD []) 6).bind fun n=>if n<0 then none else some n).bind fun n=>if 1<=n/\n<=5 then some n else none else none
theorem qC{l:List UInt8}{m:Nat}(h:0<=aq l m):(32:UInt8)∉l:=fun hm=>by
 unfold aq at h
 split at h
 ·next g=>exact absurd (List.all_eq_true.1 g.2.2 32 hm) (by decide)
 ·omega
theorem sl(l:List UInt8):oO l=cQ l:=by
 unfold oO cQ;by_cases hm:(32:UInt8)∈l
 ·obtain⟨a,b,rfl,hn⟩:=jo hm;rw[qb hn];simp only[List.length_cons,List.getElem?_cons_zero,Option.getD_some,List.getElem?_cons_succ];by_cases ha:a=DX
  ·subst ha;have e1:(DX++32::b).take 8=DX++[32]:=rfl;have e2:(DX++32::b).drop 8=b:=rfl;rw[e1,e2,if_pos rfl];by_cases hb:(vV 32 b).length=1
   ·have E:=IU hb;rw[if_pos ⟨by omega,rfl⟩,kV E];simp only[List.getElem?_cons_zero,Option.getD_some];rw[kN]
    split
    ·rfl
    ·rfl
   ·rw[if_neg (fun h=>hb e7),if_neg];intro h;exact hb (by rw[kV (qC h)];rfl)
  ·rw[if_neg (fun h=>ha h.2),if_neg];intro h;refine ha ?_;have hlen:a.length=7:=by
    have hk:∀k,k<8->(a++32::b)[k]?=(DX++[32])[k]?:=fun k hk=>by rw[<-h,List.getElem?_take_of_lt hk]
    refine Classical.byContradiction fun hne=>?_
    by_cases hlt:a.length<7
    ·have h1:=hk a.length e7;rw[List.getElem?_append_right (Nat.le_refl _),Nat.sub_self,List.getElem?_cons_zero]at h1;have:∀k:Fin 7,(DX++[32])[k.val]?≠some 32:=by decide
     exact this ⟨a.length,hlt⟩ h1.symm
    ·have h1:=hk 7 e7;rw[List.getElem?_append_left e7,List.getElem?_eq_getElem e7]at h1;have h2:a[7]' e7=32:=by
      have:(DX++[32])[7]?=some 32:=rfl;rw[this]at h1;exact Option.some.inj h1
     exact hn (by rw[<-h2];exact List.getElem_mem _)
   have:=congrArg (List.take 7) h;rw[List.take_take,show min 7 8=7 by decide,<-hlen,List.take_left]at this;rw[this,hlen];rfl
 ·rw[kV hm,if_neg (fun h=>by simp at h),if_neg];intro h;refine hm ?_;have:(32:UInt8)∈l.take 8:=by rw[h];decide
  exact List.mem_of_mem_take this
open Go.Shelf
def pi:Go.Shelf.Ren:=⟨fun|171=>63|243=>119|246=>184|283=>225|284=>226|285=>227|286=>228|129=>245|317=>244|318=>246|319=>247|320=>248|337=>262|338=>263|n=>n,fun|3=>3|9=>9|2=>2|4=>4|171=>210|0=>0|53=>179|37=>26|5=>5|173=>212|212=>219|51=>177|20=>20|213=>220|46=>134|232=>229|233=>230|n=>n,fun|17=>0|18=>2|19=>3|n=>n⟩
theorem ph:Go.Proofs.LaysM.n171 Tryz.prog pi:={
 mixed:=by kernel_rfl
 f129:=Tryz.func245.trans (congrArg some e9)
 f171:=Tryz.func63.trans (congrArg some e9)
 f243:=Tryz.func119.trans (congrArg some e9)
 f246:=Tryz.func184.trans (congrArg some e9)
 f283:=Tryz.func225.trans (congrArg some e9)
 f284:=Tryz.func226.trans (congrArg some e9)
 f285:=Tryz.func227.trans (congrArg some e9)
 f286:=Tryz.func228.trans (congrArg some e9)
 f317:=Tryz.func244.trans (congrArg some e9)
 f318:=Tryz.func246.trans (congrArg some e9)
 f319:=Tryz.func247.trans (congrArg some e9)
 f320:=Tryz.func248.trans (congrArg some e9)
 f337:=Tryz.func262.trans (congrArg some e9)
 f338:=Tryz.func263.trans (congrArg some e9)
 t0:=Tryz.underlying0
 a0:=Tryz.isAgg0
 z0:=Tryz.sizeOf0
 v0:=Tryz.zeroValue0
 t2:=Tryz.underlying2
 a2:=Tryz.isAgg2
 z2:=Tryz.sizeOf2
 v2:=Tryz.zeroValue2
 t3:=Tryz.underlying3
 a3:=Tryz.isAgg3
 z3:=Tryz.sizeOf3
 v3:=Tryz.zeroValue3
 t4:=Tryz.underlying4
 a4:=Tryz.isAgg4
 z4:=Tryz.sizeOf4
 v4:=Tryz.zeroValue4
 t5:=Tryz.underlying5
 a5:=Tryz.isAgg5
 z5:=Tryz.sizeOf5
 v5:=Tryz.zeroValue5
 t9:=Tryz.underlying9
 a9:=Tryz.isAgg9
 z9:=Tryz.sizeOf9
 v9:=Tryz.zeroValue9
 t20:=Tryz.underlying20
 a20:=Tryz.isAgg20
 z20:=Tryz.sizeOf20
 v20:=Tryz.zeroValue20
 t37:=Tryz.underlying26
 a37:=Tryz.isAgg26
 z37:=Tryz.sizeOf26
 v37:=Tryz.zeroValue26
 t46:=Tryz.underlying134
 a46:=Tryz.isAgg134
 z46:=Tryz.sizeOf134
 v46:=Tryz.zeroValue134
 t51:=Tryz.underlying177
 a51:=Tryz.isAgg177
 z51:=Tryz.sizeOf177
 v51:=Tryz.zeroValue177
 t53:=Tryz.underlying179
 a53:=Tryz.isAgg179
 z53:=Tryz.sizeOf179
 v53:=Tryz.zeroValue179
 t171:=Tryz.underlying210
 a171:=Tryz.isAgg210
 z171:=Tryz.sizeOf210
 v171:=Tryz.zeroValue210
 t173:=Tryz.underlying212
 a173:=Tryz.isAgg212
 z173:=Tryz.sizeOf212
 v173:=Tryz.zeroValue212
 t212:=Tryz.underlying219
 a212:=Tryz.isAgg219
 z212:=Tryz.sizeOf219
 v212:=Tryz.zeroValue219
 t213:=Tryz.underlying220
 a213:=Tryz.isAgg220
 z213:=Tryz.sizeOf220
 t232:=Tryz.underlying229
 a232:=Tryz.isAgg229
 z232:=Tryz.sizeOf229
 v232:=Tryz.zeroValue229
 t233:=Tryz.underlying230
 a233:=Tryz.isAgg230
 z233:=Tryz.sizeOf230
 v233:=Tryz.zeroValue230
 g17:=by kernel_rfl
 g18:=by kernel_rfl
 g19:=by kernel_rfl
 i0:=by kernel_rfl
 i2:=by kernel_rfl
 i3:=by kernel_rfl
 i4:=by kernel_rfl
 i5:=by kernel_rfl
 i9:=by kernel_rfl
 i20:=by kernel_rfl
 i37:=by kernel_rfl
 i46:=by kernel_rfl
 i51:=by kernel_rfl
 i53:=by kernel_rfl
 i171:=by kernel_rfl
 i173:=by kernel_rfl
 i212:=by kernel_rfl
 i232:=by kernel_rfl
 i233:=by kernel_rfl
 m17:=by kernel_rfl
 m18:=by kernel_rfl
 m19:=by kernel_rfl }
open Go.RowKit
theorem aD{k:IntKind}{a b:Int}(h:a=b):Ending.returned (.int k a)=.returned (.int k b):=by rw[h]
theorem ai{a b:Bool}(h:a=b):Ending.returned (.bool a)=.returned (.bool b):=by rw[h]
abbrev Ext(w w':World):Prop:=Below w.heap.size w w'
theorem Ext.refl(w:World):Ext w w:=Below.refl _ _
theorem Ext.trans{a b c:World}(h:Ext a b)(k:Ext b c):Ext a c:=Below.trans h (Below.mono k h.size)
theorem Ext.alloc(w:World)(o:Obj):Ext w (w.alloc o):=(Below.refl _ _).alloc (Nat.le_refl _) o
theorem Ext.EJ{a b c:World}(h:Ext a b)(k:Below a.heap.size b c):Ext a c:=Below.trans h k
theorem Ext.Nt(h:Ext w w'):∀b o,b<w.heap.size->w'.frozen? ⟨b,o,none⟩=w.frozen? ⟨b,o,none⟩:=fun b o k=>h.frozen (p:=⟨b,o,none⟩) k
theorem Ext.j9(h:Ext w w'){a:Addr}(k:w.cell? a=some v):w'.cell? a=some v :=
 (h.cell (World.block_lt_of_cell? w a k)).trans k
def On(base:Nat)(w:World)(P:World->Prop):Prop:=∀w2:World,(∀k,base<=k->k<w.heap.size->w2.heap[k]?=w.heap[k]?)->P w2
theorem On.here(h:On base w P):P w:=h w fun _ _ _=>rfl
theorem On.keep(h:On base w P)(hs:w.heap.size<=w'.heap.size)(hk:∀k,base<=k->k<w.heap.size->w'.heap[k]?=w.heap[k]?):On base w' P :=
 fun E h2=>h E fun k h1 h3=>(h2 k h1 e7).trans (hk k h1 h3)
theorem On.ext(h:On base w P)(hx:Ext w w'):On base w' P:=h.keep hx.size fun k _ hk=>hx.block k hk
theorem On.set(h:On base w P){a:Addr}(ha:a.block<base)(v:Value):On base (w.setCell a v) P :=
 h.keep e8 fun k hk _=>heap_setCell_other w a k v e7
theorem On.mono{base':Nat}(h:On base w P)(hb:base'<=base):On base' w P:=fun E h2=>h E fun k h1 h3=>h2 k e7 h3
structure Ints(w:World)(a:j6)(n cap:Nat)(l:j7):Prop where
 hlen:l.length=n
 l8:n<=cap
 o0:cap<=9223372036854775807
 cell:∀k,k<n->∃b off,a=some ⟨b,off,none⟩/\∀k,k<n->w.cell? ⟨b,off+k,none⟩=some (.int .i64 (l[k]?.getD 0))
theorem Ints.ext{a:j6}{cap:Nat}(h:Ints w a n cap l)(hx:Ext w w'):Ints w' a n cap l :=
 ⟨h.hlen,h.l8,h.o0,fun k hk=>let⟨b,off,e,hc⟩:=h.cell k hk;⟨b,off,e,fun k hk=>hx.j9 (hc k hk)⟩⟩
theorem Ints.at{a:j6}{cap:Nat}(h:Ints w a n cap l)(hk:k<n):
 ∃b off,a=some ⟨b,off,none⟩/\w.cell? ⟨b,off+k,none⟩=some (.int .i64 (l[k]?.getD 0)) :=
 let⟨b,off,e,hc⟩:=h.cell k hk;⟨b,off,e,hc k hk⟩
theorem Ints.drewN{a:j6}{cap:Nat}(h:Ints w a n cap l)(m:Nat):Ints (w.drewN m) a n cap l:=h.ext (below_drewN (Ext.refl w) m)
theorem Ints.alloc{a:j6}{cap:Nat}(h:Ints w a n cap l)(o:Obj):Ints (w.alloc o) a n cap l:=h.ext (Ext.alloc w o)
abbrev yU(w w':World):Prop:=∃m,w'=w.drewN m
theorem yU.refl(w:World):yU w w:=⟨0,rfl⟩
theorem yU.trans{a b c:World}(h:yU a b)(k:yU b c):yU a c:=by
 obtain⟨m,rfl⟩:=h;obtain⟨n,rfl⟩:=k;exact⟨m+n,World.drewN_drewN _ _ _⟩
theorem yU.ext(h:yU w w'):Ext w w':=by obtain⟨m,rfl⟩:=h;exact below_drewN (Ext.refl w) m
theorem Ext.drew(w:World):Ext w w.drew:=below_drewN (Ext.refl w) 1
theorem bK{P:Program}{f:FuncId}{args:Array Value}
 (h:Calls P f args (w.drewN n) fun e w'=>e=.returned v/\w.drewN n=w'):Calls P f args (w.drewN n) fun e w''=>e=.returned v/\∃m,w''=w.drewN m :=
 h.mono fun _ _ ⟨he,hm⟩=>⟨he,n,hm.symm⟩
def bh(l:j7):Array Value:=(l.map (Value.int .i64)).toArray
theorem qN(l:j7)(k:Nat)(h:k<l.length):(bh l)[k]?=some (.int .i64 (l[k]?.getD 0)):=by simp[bh,h]
theorem pf(l:j7)(k:Nat)(x:Int):(bh l).setIfInBounds k (.int .i64 x)=bh (l.set k x):=by simp[bh]
def Row(w:World)(b:Nat)(t:TypeId)(l:j7):Prop:=w.heap[b]?=some (.cells (bh l) t (0,0))
theorem Row.cell(h:Row w b t l)(hk:k<l.length):w.cell? ⟨b,k,none⟩=some (.int .i64 (l[k]?.getD 0)):=by
 rw[cell_of_row w b k _ t _ h,qN l k hk]
theorem Row.free(h:Row w b t l)(k:Nat):w.frozen? ⟨b,k,none⟩=false:=frozen_of_row w b k _ t h
theorem Row.set(h:Row w b t l)(k:Nat)(x:Int):Row (w.setCell ⟨b,k,none⟩ (.int .i64 x)) b t (l.set k x):=by
 have:=heap_setCell_same w b k _ t (.int .i64 x) h;rw[pf]at this;exact this
theorem Row.ints(h:Row w b t l){cap:Nat}(hn:l.length=n)(hc:n<=cap)(hm:cap<=9223372036854775807):Ints w (some ⟨b,0,none⟩) n cap l :=
 ⟨hn,hc,hm,fun _ _=>⟨b,0,rfl,fun k hk=>by rw[Nat.zero_add];exact h.cell e7⟩⟩
def VRow(w:World)(b:Nat)(t:TypeId)(vs:List Value):Prop:=w.heap[b]?=some (.cells vs.toArray t (0,0))
theorem aj(w:World)(o:Obj)(n:Nat)(h:n=w.heap.size):(w.alloc o).heap[n]?=some o:=by rw[h];exact heap_alloc_new w o
theorem bU(w:World)(o:Obj)(n:Nat)(h:n<w.heap.size):(w.alloc o).heap[n]?=w.heap[n]?:=by rw[World.alloc,Array.getElem?_push,if_neg e7]
theorem cH(h:k<l.length):l.take (k+1)=l.take k++[l[k]?.getD 0]:=by
 rw[List.take_succ_eq_append_getElem h];simp[h]
def r'(n lo hi:Int):Bool:=decide (lo<=n)&&decide (n<=hi)
theorem gA{xs:List α}:xs.toArray[i]?=xs[i]?:=List.getElem?_toArray
theorem gB{a:α}{l:List α}:(a::l)[i+1]?=l[i]?:=List.getElem?_cons_succ
theorem gC{a:α}{l:List α}:(a::l)[0]?=some a:=List.getElem?_cons_zero
theorem sA{xs:List α}{a:α}:xs.toArray.setIfInBounds i a=(xs.set i a).toArray:=List.setIfInBounds_toArray xs i a
theorem sB{x:α}{xs:List α}{a:α}:(x::xs).set 0 a=a::xs:=List.set_cons_zero
theorem sC{x:α}{xs:List α}{a:α}:(x::xs).set (i+1) a=x::xs.set i a:=List.set_cons_succ
section
variable{P:Program}{md:Region.Mode}{ops:Array Oper}{Q:Exit->Act->World->Prop}{S:World->Prop}{fuel:Nat}{listed:Array Bool}{a:Act}{w:World}
theorem tk(i:Nat){oi:Oper}{v:Value}{E:Array Bool}{G:Act}(h:wpAnyH P md ops Q S fuel E G w)(hi:ops[i]?=some oi:=by simp only[gA,gB,gC];rfl)(hs:Region.noSelect ops=true:=by kernel_rfl)
 (hf:Region.free md ops listed i=true:=by kernel_rfl) (hr:(Region.ready md ops listed).contains i=true:=by kernel_rfl) (J:∀c a w,Q (.panic c) (a.put oi.dst v) w->Q (.panic c) a w:=by exact fun _ _ _ h=>h)
 (hy:YieldsIf P ops S oi v a:=by(refine Or.inl ⟨by rfl,?_⟩;intro w hSw;(try dsimp only at hSw);go_simp;(try with_reducible rfl))) (I:S w:=by assumption)
 (hl:listed.setIfInBounds i true=E:=by(try simp only[sA,sB,sC]);rfl) (ha:a.put oi.dst v=G:=by(try simp only[Act.put,sA,sB,sC]);rfl):wpAnyH P md ops Q S (fuel+1) listed a w:=by subst hl ha;exact wpAnyH_take hi hs hf hr J hy I h
theorem sk(i:Nat){oi:Oper}{E:Array Bool}{G:Act}(h:wpAnyH P md ops Q S fuel E G w)(hi:ops[i]?=some oi:=by simp only[gA,gB,gC];rfl)(hs:Region.noSelect ops=true:=by kernel_rfl)
 (hf:Region.free md ops listed i=true:=by kernel_rfl) (hr:(Region.ready md ops listed).contains i=true:=by kernel_rfl) (J:∀c a w,Q (.panic c) (a.put oi.dst undef) w->Q (.panic c) a w:=by exact fun _ _ _ h=>h)
 (hy:YieldsIf P ops S oi undef a:=by exact Or.inr ⟨by rfl,rfl⟩) (I:S w:=by assumption)
 (hl:listed.setIfInBounds i true=E:=by(try simp only[sA,sB,sC]);rfl) (ha:a.put oi.dst undef=G:=by(try simp only[Act.put,sA,sB,sC]);rfl):wpAnyH P md ops Q S (fuel+1) listed a w:=by subst hl ha;exact wpAnyH_take hi hs hf hr J hy I h
theorem rd{i:Nat}{o:Oper}(hr:Region.ready md ops listed=[i]:=by kernel_rfl)(E:ops[i]?=some o:=by simp only[gA,gB,gC];rfl)
 (h:∀K':Act->World->Prop,Shut (∀a w,S w->(S w->wpAnyH P md ops Q S fuel (listed.setIfInBounds i true) a w)->K' a w)->if Region.wanted o (yielded ops a.tmps)=true then Oper.wp P o a w K' Q else K' (a.put o.dst undef) w) :
 wpAnyH P md ops Q S (fuel+1) listed a w:=wpAnyH_ready hr e8 (AllReadyH.cons E h AllReadyH.nil)
end
end Go.Proofs.YtdadoignenffgaaGreatDoor
