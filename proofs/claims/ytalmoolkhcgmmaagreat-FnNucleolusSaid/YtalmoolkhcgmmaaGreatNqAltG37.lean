import Derived.Test.YtalmoolkhcgmmaaGreatNqAltG34
import Derived.Test.YtalmoolkhcgmmaaGreatNqAltG36
import Derived.Test.YtalmoolkhcgmmaaGreatNqAltG53
set_option linter.unusedVariables false
set_option linter.unusedSimpArgs false
namespace Go.Proofs.YtalmoolkhcgmmaaGreat
open Go.RowKit
variable{V:j9}{m:Nat}
theorem oS{p:Int}{X:j6}:fI p V X=true↔∃l,yj p V X=some l/\∀r∈C9 l,zv p r=true:=by
 unfold fI CP;cases h:yj p V X with
 | none=>simp
 | some l =>
   rw[iZ h];cases hf:(C9 l).find? fun r=>!zv p r with
   | none =>
     rw[List.find?_eq_none]at hf;simp only[Option.isSome_some,Option.isSome_none,Bool.not_false,Bool.and_self,Option.some.injEq,exists_eq_left',true_iff];intro r hr;have:=hf r hr;cases e:zv p r with
     | true=>rfl
     | false=>rw[e]at this;simp at this
   | some r =>
     have h1:=List.find?_some hf;have h2:=List.mem_of_find?_eq_some hf;simp only[Option.isSome_some,Bool.not_true,Bool.and_false,Bool.false_eq_true,Option.some.injEq,exists_eq_left',false_iff];intro An;rw[An r h2]at h1;cases h1
theorem Lz{p:Int}(h:(yg p V).ok=true):aZ p V=true:=by
 cases hg:aZ p V with
 | true=>rfl
 | false=>unfold yg at h;rw[if_neg (by rw[hg];simp)]at h;cases h
theorem Qk{p:Int}(hm:V.length=m)(Z3:m<=17)(hg:aZ p V=true):p<=4:=by
 obtain⟨q,hq,h1,h5,hlen,_⟩:=aW hg;have:q≠5:=by
  intro e;subst e;have:cN 5=32:=by decide
  omega
 omega
theorem th{p:Int}(hm:V.length=m)(G:m<=17)(xq:(yg p V).ok=true):fI p V (yg p V).pt=true:=by
 have hg:=Lz xq;have h4:=Qk hm G hg;obtain⟨l,hl⟩:=SD h4 hg xq;refine oS.2 ⟨l,hl,?_⟩;by_cases CG:p=1
 ·obtain⟨q,hq,_,_,hlen,_⟩:=aW hg;have h2:V.length=2:=by
   obtain rfl:q=1:=by omega
   rw[hlen];decide
  have hl0:=(cJ hl).2;obtain rfl:l=[]:=List.eq_nil_of_length_eq_zero b9;intro r hr;obtain⟨e,he,_⟩:=lP.1 hr;cases he
 ·exact LB h4 hg CG xq hl
theorem SI{p:Int}(hm:V.length=m)(K:m<=17)(xq:(yg p V).ok=true)(X:j6):fI p V X=decide (X=(yg p V).pt):=by
 by_cases e:X=(yg p V).pt
 ·rw[decide_eq_true e,e];exact th hm K xq
 ·rw[decide_eq_false e];cases hk:fI p V X with
  | false=>rfl
  | true =>
    exfalso
    obtain⟨l,hl,hb⟩:=oS.1 hk;by_cases CG:p=1
    ·have DD:=(cJ hl).1;have hg:=dl DD;obtain⟨q,hq,_,_,hlen,_,J⟩:=aW hg;obtain rfl:q=1:=by omega
     have h2:V.length=2:=by rw[hlen];decide
     obtain⟨_,xl,I,_⟩:=gn DD;have G:=(kr DD).zL;have O:(yg p V).pt=[(bD p V,1)]:=by unfold yg;rw[if_pos hg,if_pos CG]
     have BO:bD p V=V[V.length-1]?.getD 0:=ez hg;have IX:-500<=bD p V/\bD p V<=500:=by
      rw[BO,List.getElem?_eq_getElem b9,Option.getD_some];exact J _ (List.getElem_mem _)
     match X,xl with
     | [x],_ =>
       refine e ?_;rw[O];have hx:o5 x=true:=pQ I x List.mem_cons_self;have:x=(bD p V,1):=by
        refine fV hx (eI _ b9 b9) ?_;rw[bp,BO];unfold xx zs at G;rw[h2,show p.toNat=1 by omega]at G;simp only[o0]at G;have Jz:((V[1]?.getD 0:Int):Rat)-(0+val x*((1:Int):Rat))=0:=G;rw[h2]
        show val x=((V[1]?.getD 0:Int):Rat)
        grind
       rw[this]
     | [],h=>simp at h;omega
     | _::_::_,h=>simp at h;omega
    ·exact e (vu CG xq hl hb)
end Go.Proofs.YtalmoolkhcgmmaaGreat
