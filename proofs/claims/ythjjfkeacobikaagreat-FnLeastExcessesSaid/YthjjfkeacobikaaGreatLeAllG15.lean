import Derived.Test.YthjjfkeacobikaaGreatLeAllG10
import Derived.Test.YthjjfkeacobikaaGreatLeAllG14
set_option linter.unusedVariables false
set_option linter.unusedSimpArgs false
namespace Go.Proofs.YthjjfkeacobikaaGreat
set_option maxRecDepth 100000
open Go.RowKit
def cmpX:List (Int × Int)->List (Int × Int)->Int
 | [],[]=>0
 | [],_ :: _=>-1
 | _ :: _,[]=>1
 | a :: A,b :: B=>if cmpR a b ≠ 0 then cmpR a b else cmpX A B
theorem sb {A B:List (Int × Int)} {k:Nat} (ha:k<A.length) (hb:k<B.length) :
 cmpX (A.drop k) (B.drop k)=if cmpR (A[k]?.getD (0,0)) (B[k]?.getD (0,0)) ≠ 0 then cmpR (A[k]?.getD (0,0)) (B[k]?.getD (0,0)) else cmpX (A.drop (k+1)) (B.drop (k+1)):=by
 rw [List.drop_eq_getElem_cons ha,List.drop_eq_getElem_cons hb,List.getElem?_eq_getElem ha,List.getElem?_eq_getElem hb]
 rfl
theorem rV {A B:List (Int × Int)} {k:Nat} (ha:A.length=k) (hb:B.length=k):cmpX (A.drop k) (B.drop k)=0:=by
 rw [List.drop_of_length_le (by omega),List.drop_of_length_le (by omega)];rfl
theorem rW {A B:List (Int × Int)} {k:Nat} (ha:A.length=k) (hb:k<B.length):cmpX (A.drop k) (B.drop k)=-1:=by
 rw [List.drop_of_length_le (by omega),List.drop_eq_getElem_cons hb];rfl
theorem rZ {A B:List (Int × Int)} {k:Nat} (ha:k<A.length) (hb:B.length=k):cmpX (A.drop k) (B.drop k)=1:=by
 rw [List.drop_of_length_le (l:=B) (by omega),List.drop_eq_getElem_cons ha];rfl
theorem nY (B:List (Int × Int)):¬ 0<cmpX [] B:=by cases B <;> simp [cmpX]
theorem qb:∀ {A B:List (Int × Int)},(∀ x ∈ A,valR x=true)->(∀ x ∈ B,valR x=true)->(A.map val=B.map val ∨ gK (A.map val) (B.map val))->¬ 0<cmpX A B
 | [],B,_,_,_=>nY B
 | a :: A,[],_,_,h=>by
   rcases h with h|h
   ·cases h
   ·exact absurd h (by simp [gK])
 | a :: A,b :: B,ha,hb,h=>by
   have va:=ha a List.mem_cons_self;have vb:=hb b List.mem_cons_self;unfold cmpX;by_cases h0:cmpR a b ≠ 0
   ·rw [if_pos h0];intro hp;have h1:¬ val a<val b:=fun hl=>by have:=(qd va vb).2 hl;omega
    have h2:¬ val a=val b:=fun he=>by
     have he:=iE va vb he;subst he;have:cmpR a a=0:=by unfold cmpR;split <;> simp
     omega
    rcases h with h|h
    ·simp only [List.map_cons,List.cons.injEq] at h;exact h2 h.1
    ·simp only [List.map_cons,gK] at h
     rcases h with h|h
     ·exact h1 h
     ·exact h2 h.1
   ·rw [if_neg h0];have h0:cmpR a b=0:=by omega
    have hge:val b<=val a:=(ie va vb).1 (by omega);have hn:¬ val a<val b:=fun hl=>by have:=(qd va vb).2 hl;omega
    refine qb (fun x hx=>ha x (List.mem_cons_of_mem _ hx)) (fun x hx=>hb x (List.mem_cons_of_mem _ hx)) ?_
    rcases h with h|h
    ·simp only [List.map_cons,List.cons.injEq] at h;exact .inl h.2
    ·simp only [List.map_cons,gK] at h
     rcases h with h|h
     ·exact absurd h hn
     ·exact .inr h.2
set_option maxHeartbeats 4000000 in
theorem jU {w:World} {a a':Option Addr} {n n' cap cap':Nat} {A B:List (Int × Int)} (h:Rats w a n cap A) (h':Rats w a' n' cap' B) :
 Calls Tryz.prog 60 #[.slice a n cap,.slice a' n' cap'] w fun e w'=>e=.returned (.int .i64 (cmpX A B))/\Ext w w':=by
 have hn:=h.hcap;have hm:=h.hmax;have hn':=h'.hcap;have hm':=h'.hmax;have HA:=ae h;have HB:=ae h';have HLA:=ae h.hlen;have HLB:=ae h'.hlen;clear h h';obtain ⟨z,hz⟩:∃ z,z=cmpX A B:=⟨_,rfl⟩;rw [<-hz];have HZ:=ae hz;clear hz;go_enter Tryz.func60,Tryz.ntmps60
 go_wp2_with fail
 go_loopg [5] n (fun gk ii wr=>∃ k:Nat,Hid (gk+k=n)/\ii=.int .i64 (k:Int)/\Hid (k<=n')/\Hid (z=cmpX (A.drop k) (B.drop k))/\Hid (Ext w wr))
 case atStart=>exact ⟨0,ae (by omega),rfl,ae (by omega),ae HZ.out,ae (Ext.refl _)⟩
 case round =>
  obtain ⟨g1,h_g1⟩:∃ x,x=gk:=⟨_,rfl⟩;subst h_g1;obtain ⟨wr,h_wr⟩:∃ x,x=wr:=⟨_,rfl⟩;subst h_wr;obtain ⟨k,HK,rfl,HK2,HC,XR⟩:=hrel;by_cases hlt:k<n
  ·have hki:(k:Int)<(n:Int):=by omega
   by_cases hlt2:k<n'
   ·have hki2:(k:Int)<(n':Int):=by omega
    have hk0:(0:Int)<=(k:Int):=by omega
    obtain ⟨xb,xo,x1,x2,rfl,hxe,hxa,hxb⟩:=(HA.out.ext XR.out).at hlt;obtain ⟨yb,yo,y1,y2,rfl,hye,hya,hyb⟩:=(HB.out.ext XR.out).at hlt2;obtain ⟨cv,hcv⟩:∃ v,v=cmpR (x1,x2) (y1,y2):=⟨_,rfl⟩;have HCV:=ae hcv;have HD:=ae (sb (A:=A) (B:=B) (k:=k) (by rw [HLA.out];exact hlt) (by rw [HLB.out];exact hlt2));rw [hxe,hye,<-hcv] at HD;clear hxe hye hcv;have hk2:Ext wr wr.drew:=Ext.drew wr;have hka:=hk2;have HKEEP:=ae (fun (w':World) (h:Ext wr w')=>(⟨h.cellSome hxa,h.cellSome hxb,h.cellSome hya,h.cellSome hyb,h⟩:w'.cell? ⟨xb,xo+k*2,none⟩=some (.int .i64 x1)/\w'.cell? ⟨xb,xo+k*2+1,none⟩=some (.int .i64 x2)/\w'.cell? ⟨yb,yo+k*2,none⟩=some (.int .i64 y1)/\w'.cell? ⟨yb,yo+k*2+1,none⟩=some (.int .i64 y2)/\Ext wr w'));go_wp2_with fail
    go_region_held3 (fun w'=>w'.cell? ⟨xb,xo+k*2,none⟩=some (.int .i64 x1)/\w'.cell? ⟨xb,xo+k*2+1,none⟩=some (.int .i64 x2)/\w'.cell? ⟨yb,yo+k*2,none⟩=some (.int .i64 y1)/\w'.cell? ⟨yb,yo+k*2+1,none⟩=some (.int .i64 y2)/\Ext wr w')
     (with_reducible exact HKEEP.out _ hk2)
     (first
       | (go_at_call 38
          (with_reducible refine (gY x1 x2 y1 y2 _).mono ?_)
          rw [<-HCV.out];rintro e wl ⟨rfl,hx_wl⟩;have hk2:Ext wr wl:=hk2.trans hx_wl
          have hs_wl:=hk2.size)
       | fail)
    clear HKEEP hka;have XL:=ae (XR.out.trans hk2);clear hxa hxb hya hyb hk2;by_cases h0:cv=0
    ·have e0:(cv != 0)=false:=by simp [h0]
     have HC2:=ae (show z=cmpX (A.drop (k+1)) (B.drop (k+1)) by rw [HC.out,HD.out,if_neg (by omega)]);clear h0;go_wp2_with fail
     go_roundg (g1-1)
     case measure=>have:=HK.out;omega
     case rel=>exact ⟨k+1,ae (by have:=HK.out;omega),by go_num,ae (by omega),HC2,XL⟩
    ·have e0:(cv != 0)=true:=by simp [h0]
     have HC2:=ae (show z=cv by rw [HC.out,HD.out,if_pos h0]);clear h0;go_wp2_with fail;go_ret;exact ⟨by rw [HC2.out];rfl,XL.out⟩
   ·have hki2:¬ (k:Int)<(n':Int):=by omega
    have hkn:n'=k:=by have:=HK2.out;omega
    have hl1:¬ (n:Int)<(n':Int):=by omega
    have hl2:(n':Int)<(n:Int):=by omega
    have HC2:=ae (show z=1 by rw [HC.out];exact rZ (by rw [HLA.out];exact hlt) (by rw [HLB.out];exact hkn));clear hkn;go_wp2_with fail;go_ret;exact ⟨by rw [HC2.out];rfl,XR.out⟩
  ·have hki:¬ (k:Int)<(n:Int):=by omega
   have hkn:n=k:=by have:=HK.out;omega
   by_cases hlt2:n<n'
   ·have hl1:(n:Int)<(n':Int):=by omega
    have HC2:=ae (show z=-1 by rw [HC.out];exact rW (by rw [HLA.out];exact hkn) (by rw [HLB.out];omega));clear hkn;go_wp2_with fail;go_ret;exact ⟨by rw [HC2.out];rfl,XR.out⟩
   ·have hl1:¬ (n:Int)<(n':Int):=by omega
    have hl2:¬ (n':Int)<(n:Int):=by have:=HK2.out;omega
    have HC2:=ae (show z=0 by rw [HC.out];exact rV (by rw [HLA.out];exact hkn) (by rw [HLB.out];have:=HK2.out;omega));clear hkn;go_wp2_with fail;go_ret;exact ⟨by rw [HC2.out];rfl,XR.out⟩
theorem mQ {X Y:List (Int × Int)}:∀ {k:Nat} {v:Int × Int},dotN X Y k=some v->valR v=true/\(∀ j,j<k->valR (X[j]?.getD (0,0))=true/\valR (Y[j]?.getD (0,0))=true)/\val v=sumN (fun j=>vrow X j*vrow Y j) k
 | 0,v,e=>by
   simp only [dotN,Option.some.injEq] at e;subst e;refine ⟨rfl,fun j hj=>absurd hj (by omega),?_⟩;unfold val sumN;simp;grind
 | k+1,v,e=>by
   simp only [dotN] at e;cases e0:dotN X Y k with
   | none=>rw [e0] at e;cases e
   | some s =>
     rw [e0] at e;simp only [Option.bind_some] at e
     split at e
     ·next h2 =>
      simp only [Option.some.injEq] at e;obtain ⟨h3,h4,h5⟩:=mQ e0;obtain ⟨m1,m2,m3,m4⟩:=qH h2.1;obtain ⟨a1,a2,a3,a4⟩:=jQ h2.2;rw [<-e];refine ⟨a3,fun j hj=>?_,?_⟩
      ·by_cases hjk:j<k
       ·exact h4 j hjk
       ·obtain rfl:j=k:=by omega
        exact ⟨m1,m2⟩
      ·rw [a4,m4,h5];rfl
     ·cases e
theorem dr {X Y:List (Int × Int)} {v:Int × Int} (e:dotL X Y=some v):X.length=Y.length/\valR v=true/\(∀ j,j<X.length->valR (X[j]?.getD (0,0))=true/\valR (Y[j]?.getD (0,0))=true)/\val v=sumN (fun j=>vrow X j*vrow Y j) X.length:=by
 unfold dotL at e
 split at e
 ·next h=>exact ⟨h,mQ e⟩
 ·cases e
theorem mP (X Y:List (Int × Int)):∀ k,dotN X Y k=dotN Y X k
 | 0=>rfl
 | k+1=>by simp only [dotN,mP X Y k,sZ (X[k]?.getD (0,0))]
theorem ik (X Y:List (Int × Int)):dotL X Y=dotL Y X:=by
 unfold dotL;by_cases h:X.length=Y.length
 ·rw [if_pos h,if_pos h.symm,h,mP]
 ·rw [if_neg h,if_neg (fun e=>h e.symm)]
theorem ol (Y:List (Int × Int)) (k:Nat):(Y.map negR)[k]?.getD (0,0)=negR (Y[k]?.getD (0,0)):=by
 rw [List.getElem?_map];cases Y[k]? <;> rfl
theorem ob (X Y:List (Int × Int)):∀ k,dotN X (Y.map negR) k=(dotN X Y k).map negR
 | 0=>rfl
 | k+1=>by
   simp only [dotN,ob X Y k,ol,mulR_neg];cases dotN X Y k with
   | none=>rfl
   | some s =>
     simp only [Option.map_some,Option.bind_some,addR_neg]
     split <;> rfl
theorem dotL_neg (X Y:List (Int × Int)):dotL X (Y.map negR)=(dotL X Y).map negR:=by
 unfold dotL;rw [List.length_map]
 split
 ·exact ob X Y _
 ·rfl
theorem rM (l:List Int):au (l.map fun x=>-x)=(au l).map negR:=by
 unfold au;rw [List.map_map,List.map_map];rfl
def niceC (A:List (List Int)) (C:List (Int × Int)) (j:Nat):Prop :=
 (∃ x:Int,C[j]?.getD (0,0)=(x,1)/\-1000000<=x/\x<=1000000) ∨ ∃ j',j'<C.length/\C[j']?.getD (0,0)=negR (C[j]?.getD (0,0))/\colL A j'=(colL A j).map fun x=>-x
theorem bound_le {A:List (List Int)} {Y C:List (Int × Int)} {j:Nat} (h:aK A Y C j=true):bh A Y C j=true:=by
 unfold aK at h;unfold bh;cases e:dotL Y (au (colL A j)) with
 | none=>rw [e] at h;cases h
 | some v =>
   rw [e] at h;simp only [Bool.and_eq_true,decide_eq_true_eq] at h ⊢;obtain ⟨s1,s2,s3,s4⟩:=fA h.1;rw [ie s1 s2];have:=(ed s3).1 h.2;rw [s4] at this;grind
theorem ql {x:Int} {v c:Int × Int} (h1:-1000000<=x) (h2:x<=1000000) (hv:valR v=true) (hc:valR c=true) (e:val c=(x:Rat)-val v):subR (x,1) v=(c,true):=by
 have hb:=aU hv;have kb:=aU hc;have hx:valR (x,1)=true:=(Fr.int x (by omega) (by omega)).1;have hn:(x*v.2).natAbs<=1000000*1000000000:=by
  rw [Int.natAbs_mul];exact Nat.mul_le_mul (by omega) (by omega)
 have key:(x*v.2-v.1*1)*c.2=c.1*(1*v.2):=by
  have a:=ei (show v.2 ≠ 0 by omega);have b:=ei (show c.2 ≠ 0 by omega);have:((x:Rat)*v.2-v.1)*c.2=c.1*v.2:=by unfold val at e;grind
  have h3:(x*v.2-v.1)*c.2=c.1*v.2:=by exact_mod_cast this
  grind
 unfold subR;rw [if_pos (by rw [hx,hv];rfl)];simp only;obtain ⟨r,e1,e2⟩:=kA (n:=x*v.2-v.1*1) (d:=1*v.2) (x:=c.1) (D:=c.2) (by omega) (by omega) (by omega) (by omega) (by omega) (by omega) key;rw [e1];have:=Fr.eq e2 (Fr.self hc) rfl;rw [this]
theorem rS {A:List (List Int)} {Y C:List (Int × Int)} {j:Nat} {c:Int × Int} (hc:valR c=true) (hn:∃ x:Int,C[j]?.getD (0,0)=(x,1)/\-1000000<=x/\x<=1000000) (h:bh A Y C j=true)
 (e:∀ v,dotL Y (au (colL A j))=some v->val c=val (C[j]?.getD (0,0))-val v):aK A Y C j=true:=by
 obtain ⟨x,hx,h1,h2⟩:=hn;unfold bh at h;unfold aK;cases e0:dotL Y (au (colL A j)) with
 | none=>rw [e0] at h;cases h
 | some v =>
   rw [e0] at h;have hcv:=e v e0;have hv:=(dr e0).2.1;simp only [hx,decide_eq_true_eq] at h hcv ⊢;rw [bv] at hcv;rw [ql h1 h2 hv hc hcv];simp only [Bool.true_and,decide_eq_true_eq];rw [ed hc,hcv];have:=(ie (Fr.int x (by omega) (by omega)).1 hv).1 h;rw [bv] at this;grind
theorem tO {c:Int × Int} (h:valR c=true):subR c c=((0,1),true):=by
 have hb:=aU h;unfold subR;rw [if_pos (by rw [h];rfl),Int.sub_self];have hp:0<c.2*c.2:=Int.mul_pos (by omega) (by omega);obtain ⟨r,e1,e2⟩:=kA (n:=0) (d:=c.2*c.2) (x:=0) (D:=1) hp (by omega) (bd18 ⟨by omega,hb.2.1⟩ ⟨by omega,hb.2.1⟩).2 (by omega) (by omega) (by omega) (by omega);rw [e1];have:=Fr.eq e2 (Fr.int 0 (by omega) (by omega)) rfl;rw [this]
theorem qJ {A:List (List Int)} {Y C:List (Int × Int)} {j j':Nat} (hv:valR (C[j]?.getD (0,0))=true) (e1:C[j']?.getD (0,0)=negR (C[j]?.getD (0,0))) (e2:colL A j'=(colL A j).map fun x=>-x)
 (h:bh A Y C j=true) (h':bh A Y C j'=true):aK A Y C j=true:=by
 unfold bh at h h';unfold aK;rw [e2,rM,dotL_neg,e1] at h';cases e0:dotL Y (au (colL A j)) with
 | none=>rw [e0] at h;cases h
 | some v =>
   rw [e0] at h h';have hvv:=(dr e0).2.1;simp only [decide_eq_true_eq,Option.map_some] at h h';rw [ie hv hvv] at h;rw [ie (by rw [cn];exact hv) (by rw [cn];exact hvv),cL,cL] at h';have hval:val (C[j]?.getD (0,0))=val v:=by grind
   have:=iE hv hvv hval;simp only;rw [this,tO hvv];rfl
theorem eT {A:List (List Int)} {B:List Int} {C:List (Int × Int)} (h:okLP A B C=true):C.length<=70/\A.length<=8/\B.length=A.length/\(∀ j,j<C.length->valR (C[j]?.getD (0,0))=true) /\
 (∀ i,i<A.length->(A[i]?.getD []).length=C.length/\∀ x ∈ A[i]?.getD [],-5000<=x/\x<=5000)/\∀ i,i<B.length->-5000<=B[i]?.getD 0/\B[i]?.getD 0<=5000:=by
 unfold okLP allV at h;simp only [Bool.and_eq_true,decide_eq_true_eq,List.all_eq_true,inB] at h;obtain ⟨h1,h2,h3,h4,h5,h6⟩:=h;refine ⟨h1,h2,h3,fun j hj=>?_,fun i hi=>?_,fun i hi=>?_⟩
 ·rw [List.getElem?_eq_getElem hj];exact h4 _ (List.getElem_mem _)
 ·rw [List.getElem?_eq_getElem hi];exact h5 _ (List.getElem_mem _)
 ·rw [List.getElem?_eq_getElem hi];exact h6 _ (List.getElem_mem _)
theorem fc (b:Int):(b<0/\sideI b=-1) ∨ (¬ b<0/\sideI b=1):=by
 unfold sideI;by_cases h:b<0
 ·exact .inl ⟨h,if_pos h⟩
 ·exact .inr ⟨h,if_neg h⟩
theorem fW {A:List (List Int)} {B:List Int} {n:Nat} {i:Nat} (hl:(A[i]?.getD []).length=n) (hi:i<A.length) :
 (cg A B i).length=n+A.length+1/\(∀ j,j<n->(cg A B i)[j]?.getD (0,0)=(sideI (B[i]?.getD 0)*(A[i]?.getD [])[j]?.getD 0,1))/\(∀ k,k<A.length->(cg A B i)[n+k]?.getD (0,0)=if k=i then (1,1) else (0,1))/\(cg A B i)[n+A.length]?.getD (0,0)=(sideI (B[i]?.getD 0)*B[i]?.getD 0,1):=by
 have e1:((A[i]?.getD []).map fun x=>(sideI (B[i]?.getD 0)*x,(1:Int))).length=n:=by rw [List.length_map,hl]
 have e2:(lY A.length i).length=A.length:=by simp [lY]
 unfold cg;refine ⟨by simp [hl,e2];omega,fun j hj=>?_,fun k hk=>?_,?_⟩
 ·rw [List.getElem?_append_left (by rw [List.length_append,e1];omega),List.getElem?_append_left (by omega),List.getElem?_map];rw [List.getElem?_eq_getElem (l:=A[i]?.getD []) (by rw [hl];exact hj)];rfl
 ·rw [List.getElem?_append_left (by rw [List.length_append,e1,e2];omega),List.getElem?_append_right (by omega),e1,Nat.add_sub_cancel_left];unfold lY;rw [List.getElem?_map,List.getElem?_range hk];rfl
 ·rw [List.getElem?_append_right (by rw [List.length_append,e1,e2];omega),List.length_append,e1,e2];simp
theorem je (x:Int) (h:-1000000000<=x) (h':x<=1000000000):valR (x,1)=true:=(Fr.int x h h').1
theorem gm {A:List (List Int)} {B:List Int} {C:List (Int × Int)} (h:okLP A B C=true):TInv C.length A.length (fun k j=>vrow (cg A B k) j) (bF A B C.length):=by
 obtain ⟨h1,h2,h3,h4,h5,h6⟩:=eT h;have hrow:∀ i,i<A.length->(bF A B C.length).row i=cg A B i:=by
  intro i hi;unfold bF Tb.row;simp only [List.getElem?_map,List.getElem?_range hi,Option.map_some,Option.getD_some]
 refine ⟨rfl,by simp [bF],by simp [bF],fun b hb=>?_,fun i hi=>?_,fun i hi=>?_⟩
 ·simp only [bF,List.mem_map,List.mem_range] at hb;obtain ⟨i,hi,rfl⟩:=hb;omega
 ·rw [hrow i hi];obtain ⟨r1,r2,r3,r4⟩:=fW (B:=B) (h5 i hi).1 hi;refine ⟨r1,fun j hj=>?_⟩;by_cases hj1:j<C.length
  ·rw [r2 j hj1];have hm:(A[i]?.getD [])[j]?.getD 0 ∈ A[i]?.getD []:=by
    rw [List.getElem?_eq_getElem (l:=A[i]?.getD []) (by rw [(h5 i hi).1];exact hj1)];exact List.getElem_mem _
   have hbd:=(h5 i hi).2 _ hm;refine je _ ?_ ?_ <;> rcases fc (B[i]?.getD 0) with ⟨_,e⟩|⟨_,e⟩ <;> rw [e] <;> omega
  ·by_cases hj2:j<C.length+A.length
   ·obtain ⟨k,rfl⟩:∃ k,j=C.length+k:=⟨j-C.length,by omega⟩;rw [r3 k (by omega)];split <;> rfl
   ·obtain rfl:j=C.length+A.length:=by omega
    rw [r4];have:=h6 i (by omega);refine je _ ?_ ?_ <;> rcases fc (B[i]?.getD 0) with ⟨_,e⟩|⟨_,e⟩ <;> rw [e] <;> omega
 ·rw [hrow i hi];obtain ⟨r1,r2,r3,r4⟩:=fW (B:=B) (h5 i hi).1 hi;intro j hj;rw [fk (i:=i) hi]
  ·unfold vrow;rw [r3 i hi,if_pos rfl];have:val (1,1)=1:=by unfold val;grind
   rw [this];grind
  ·intro k hk hki;unfold vrow;rw [r3 k hk,if_neg hki];have:val (0,1)=0:=by unfold val;grind
   rw [this];grind
theorem fj (f:Nat->Rat):∀ m,sumN (fun k=>- f k) m=- sumN f m
 | 0=>by simp [sumN]
 | m+1=>by simp only [sumN,fj f m];grind
theorem ps (b x:Int):val (sideI b*x,1)=(sideI b:Rat)*(x:Rat):=by rw [bv];exact_mod_cast rfl
theorem sl (B:List Int) (cs:List (Int × Int)) (n i:Nat):val (dw B cs n i)=- ((sideI (B[i]?.getD 0):Rat)*vrow cs (n+i)):=by
 unfold dw sgnR
 rcases fc (B[i]?.getD 0) with ⟨h,e⟩|⟨h,e⟩
 ·rw [if_pos h,e,cL,cL];unfold vrow;have:((-1:Int):Rat)=-1:=by exact_mod_cast rfl
  rw [this];grind
 ·rw [if_neg h,e,cL];unfold vrow;have:((1:Int):Rat)=1:=by exact_mod_cast rfl
  rw [this];grind
theorem raw_opt {A:List (List Int)} {B:List Int} {C:List (Int × Int)} (ok:okLP A B C=true) {r:LpR} (h:rawT A B C=some r) (hs:r.status=1) :
 ∃ cs,iS (C.length+A.length+1) cs/\r.Y.length=B.length/\r.value=negR (cs[C.length+A.length]?.getD (0,0))/\(∀ j,j<C.length->vrow cs j=val (C[j]?.getD (0,0))-sumN (fun k=>vrow r.Y k*(((A[k]?.getD [])[j]?.getD 0:Int):Rat)) A.length) /\
   vrow cs (C.length+A.length)=- sumN (fun k=>vrow r.Y k*((B[k]?.getD 0:Int):Rat)) A.length:=by
 obtain ⟨h1,h2,h3,h4,h5,h6⟩:=eT ok;unfold rawT at h;rw [h3] at h;cases e1:aV (dD C.length A.length) 1000 (bF A B C.length) with
 | none=>rw [e1] at h;cases h
 | some p1 =>
   rw [e1] at h;simp only [Option.bind_some] at h
   split at h
   ·rw [Option.map_eq_some_iff] at h;obtain ⟨Y,_,rfl⟩:=h;cases hs
   ·cases e2:bo C.length (p1.t,p1.left) A.length with
    | none=>rw [e2] at h;cases h
    | some s =>
      rw [e2] at h;simp only [Option.bind_some] at h;rw [Option.map_eq_some_iff] at h;obtain ⟨p2,e3,h⟩:=h
      split at h
      ·subst h;cases hs
      ·have i1:=(dp (gm ok) e1).1;have i2:=(eQ (s:=(p1.t,p1.left)) i1 e2).1;obtain ⟨i3,e4,_⟩:=dp i2 e3;obtain ⟨c1,c2⟩:=dW i3 e4;subst h;have hc2:∀ j,(bY C A.length++[(0,1)])[j]?.getD (0,0)=if j<C.length then C[j]?.getD (0,0) else if j<C.length+A.length+1 then (0,1) else (0,0):=by
        intro j;unfold bY;by_cases hj:j<C.length
        ·rw [if_pos hj,List.append_assoc,List.getElem?_append_left hj]
        ·rw [if_neg hj,List.append_assoc,List.getElem?_append_right (by omega)];have:List.replicate A.length ((0:Int),(1:Int))++[(0,1)]=List.replicate (A.length+1) (0,1):=by rw [List.replicate_succ']
         rw [this,List.getElem?_replicate];by_cases hj2:j<C.length+A.length+1
         ·rw [if_pos hj2,if_pos (by omega)];rfl
         ·rw [if_neg hj2,if_neg (by omega)];rfl
       have hz:∀ k,k<A.length+1->vrow (bY C A.length++[(0,1)]) (C.length+k)=0:=by
        intro k hk;unfold vrow;rw [hc2,if_neg (by omega),if_pos (by omega)];unfold val;grind
       have hY:∀ k,k<A.length->vrow ((List.range A.length).map (dw B p2.costs C.length)) k=- ((sideI (B[k]?.getD 0):Rat)*vrow p2.costs (C.length+k)):=by
        intro k hk;unfold vrow;rw [List.getElem?_map,List.getElem?_range hk,Option.map_some,Option.getD_some,sl];rfl
       refine ⟨p2.costs,c1,by simp [h3],rfl,fun j hj=>?_,?_⟩
       ·have hr:=c2 j (by omega);have hcj:vrow (bY C A.length++[(0,1)]) j=val (C[j]?.getD (0,0)):=by unfold vrow;rw [hc2,if_pos hj]
        have hsum:sumN (fun k=>(vrow p2.costs (C.length+k)-vrow (bY C A.length++[(0,1)]) (C.length+k))*vrow (cg A B k) j) A.length=sumN (fun k=>- (vrow ((List.range A.length).map (dw B p2.costs C.length)) k*(((A[k]?.getD [])[j]?.getD 0:Int):Rat))) A.length :=
         av fun k hk=>by
          rw [hz k (by omega),hY k hk];have:vrow (cg A B k) j=(sideI (B[k]?.getD 0):Rat)*(((A[k]?.getD [])[j]?.getD 0:Int):Rat):=by
           unfold vrow;rw [(fW (B:=B) (h5 k hk).1 hk).2.1 j hj,ps]
          rw [this];grind
        rw [hsum,fj,hcj] at hr;simp only
        grind
       ·have hr:=c2 (C.length+A.length) (by omega);have hsum:sumN (fun k=>(vrow p2.costs (C.length+k)-vrow (bY C A.length++[(0,1)]) (C.length+k))*vrow (cg A B k) (C.length+A.length)) A.length=sumN (fun k=>- (vrow ((List.range A.length).map (dw B p2.costs C.length)) k*((B[k]?.getD 0:Int):Rat))) A.length :=
         av fun k hk=>by
          rw [hz k (by omega),hY k hk];have:vrow (cg A B k) (C.length+A.length)=(sideI (B[k]?.getD 0):Rat)*((B[k]?.getD 0:Int):Rat):=by
           unfold vrow;rw [(fW (B:=B) (h5 k hk).1 hk).2.2.2,ps]
          rw [this];grind
        rw [hsum,fj,hz A.length (by omega)] at hr;simp only
        grind
theorem qe (A:List (List Int)) (j k:Nat) (hk:k<A.length):(colL A j)[k]?.getD 0=(A[k]?.getD [])[j]?.getD 0:=by
 unfold colL;rw [List.getElem?_map,List.getElem?_eq_getElem hk];rfl
theorem check_eq {A:List (List Int)} {B:List Int} {C:List (Int × Int)} (ok:okLP A B C=true) (hn:∀ j,j<C.length->niceC A C j) {r:LpR} (h:rawT A B C=some r):aD aK A B C r=aD bh A B C r:=by
 unfold aD
 split
 ·next hs =>
  obtain ⟨cs,c1,c2,c3,c4,c5⟩:=raw_opt ok h hs;obtain ⟨h1,h2,h3,h4,h5,h6⟩:=eT ok;have key:(List.range C.length).all (aK A r.Y C)=(List.range C.length).all (bh A r.Y C):=by
   rw [Bool.eq_iff_iff,List.all_eq_true,List.all_eq_true];constructor
   ·intro ha j hj;exact bound_le (ha j hj)
   ·intro ha j hj;have hj':=List.mem_range.1 hj
    rcases hn j hj' with hi|⟨j',hj2,e1,e2⟩
    ·refine rS (c1.2 j (by omega)) hi (ha j hj) fun v hv=>?_
     have:=c4 j hj';unfold vrow at this;rw [this];obtain ⟨d1,d2,d3,d4⟩:=dr hv;rw [d4,c2,h3]
     congr 1
     refine av fun k hk=>?_
     unfold vrow;rw [jG (by simp [colL];omega),qe A j k hk,bv]
    ·exact qJ (h4 j hj') e1 e2 (ha j hj) (ha j' (List.mem_range.2 hj2))
  rw [key]
 ·rfl
theorem solve_eq {A:List (List Int)} {B:List Int} {C:List (Int × Int)} (hn:okLP A B C=true->∀ j,j<C.length->niceC A C j):bO aK A B C=bO bh A B C:=by
 unfold bO
 split
 ·next ok =>
  cases e:rawT A B C with
  | none=>rfl
  | some r=>simp only [check_eq ok (hn ok) e]
 ·rfl
def cZ (B:List Int) (base:Int × Int) (cs:List (Int × Int)) (n i:Nat):Int × Int:=sgnR (B[i]?.getD 0) (subR base (cs[n+i]?.getD (0,0))).1
def rawS (A:List (List Int)) (B:List Int) (C:List (Int × Int)):Option LpR :=
 (aV (dD C.length B.length) 1000 (bF A B C.length)).bind fun p1 =>
   if (p1.costs[C.length+B.length]?.getD (0,0)).1<0 then
    some ⟨2,[],(List.range B.length).map (cZ B (1,1) p1.costs C.length),[],(0,0),1000-p1.left⟩
   else (bo C.length (p1.t,p1.left) B.length).bind fun s=>(aV (bY C B.length) s.2 s.1).map fun p2 =>
    if 0<=p2.col then ⟨3,(solT p2.t).take C.length,[],rayN p2.t C.length p2.col.toNat B.length,(0,0),1000-p2.left⟩
    else ⟨1,(solT p2.t).take C.length,(List.range B.length).map (cZ B (0,1) p2.costs C.length),[],negR (p2.costs[C.length+B.length]?.getD (0,0)),1000-p2.left⟩
def eB (A:List (List Int)) (B:List Int) (C:List (Int × Int)):LpR :=
 if okLP A B C=true then
  match rawS A B C with
  | none=>aO 4
  | some r=>if aD bh A B C r=true then r else aO 4
 else aO 0
theorem qQ {B:List Int} {base:Int × Int} {cs:List (Int × Int)} {n i:Nat} {x:Int × Int} (h:eR B base cs n i=some x):cZ B base cs n i=x:=by
 unfold eR at h
 split at h
 ·exact Option.some.inj h
 ·cases h
theorem nQ {a b:Int × Int} (h:(subR a b).2=false):(subR a b).1=(0,0):=by
 unfold subR at h ⊢
 split
 ·next hv=>rw [if_pos hv] at h;exact ratOf_no h
 ·rfl
theorem qP {B:List Int} {base:Int × Int} {cs:List (Int × Int)} {n i:Nat} (h:eR B base cs n i=none):valR (cZ B base cs n i)=false:=by
 unfold eR at h
 split at h
 ·cases h
 ·next hf =>
  unfold cZ;rw [nQ (by simpa using hf)];unfold sgnR negR
  split <;> rfl
theorem sp {B:List Int} {cs:List (Int × Int)} {n i:Nat} (hv:valR (cs[n+i]?.getD (0,0))=true):cZ B (0,1) cs n i=dw B cs n i:=by
 unfold cZ dw;rw [ql (x:=0) (c:=negR (cs[n+i]?.getD (0,0))) (by omega) (by omega) hv (by rw [cn];exact hv) (by rw [cL];grind)]
theorem lM {f:Nat->Option (Int × Int)}:∀ {k:Nat},runT f k=none->∃ i,i<k/\f i=none
 | 0,h=>by cases h
 | k+1,h=>by
   cases hk:runT f k with
   | none=>obtain ⟨i,hi,hf⟩:=lM hk;exact ⟨i,by omega,hf⟩
   | some l =>
     cases hf:f k with
     | none=>exact ⟨k,by omega,hf⟩
     | some x=>rw [du hk hf] at h;cases h
theorem rawS_eq {A:List (List Int)} {B:List Int} {C:List (Int × Int)} (ok:okLP A B C=true) :
 rawS A B C=rawT A B C ∨ (rawT A B C=none/\∃ r,rawS A B C=some r/\aD bh A B C r=false):=by
 obtain ⟨h1,h2,h3,h4,h5,h6⟩:=eT ok;unfold rawS rawT;cases e1:aV (dD C.length B.length) 1000 (bF A B C.length) with
 | none=>exact Or.inl rfl
 | some p1 =>
   simp only [Option.bind_some];by_cases hneg:(p1.costs[C.length+B.length]?.getD (0,0)).1<0
   ·rw [if_pos hneg,if_pos hneg];cases hr:runT (eR B (1,1) p1.costs C.length) B.length with
    | some Y =>
      left
      have hY:(List.range B.length).map (cZ B (1,1) p1.costs C.length)=Y:=by
       have:=oX (f:=eR B (1,1) p1.costs C.length) (F:=cZ B (1,1) p1.costs C.length) (k:=B.length) fun i hi=>by
        have:=gS hr i hi;rw [this,qQ this]
       rw [hr] at this;exact (Option.some.inj this).symm
      rw [hY];rfl
    | none =>
      right
      refine ⟨rfl,_,rfl,?_⟩;obtain ⟨i,hi,hf⟩:=lM hr;have hv:=qP hf;unfold aD;rw [if_neg (by simp),if_pos rfl];simp only;rw [Bool.and_eq_false_iff]
      right
      unfold jN;rw [Bool.and_eq_false_iff]
      right
      cases hd:dotL ((List.range B.length).map (cZ B (1,1) p1.costs C.length)) (au B) with
      | none=>rfl
      | some v =>
        exfalso
        have:=((dr hd).2.2.1 i (by simpa using hi)).1;rw [List.getElem?_map,List.getElem?_range hi,Option.map_some,Option.getD_some,hv] at this;cases this
   ·rw [if_neg hneg,if_neg hneg]
    left
    cases e2:bo C.length (p1.t,p1.left) B.length with
    | none=>rfl
    | some s =>
      simp only [Option.bind_some];cases e3:aV (bY C B.length) s.2 s.1 with
      | none=>rfl
      | some p2 =>
        simp only [Option.map_some]
        split
        ·rfl
        ·have i1:=(dp (gm ok) e1).1;have i2:=(eQ (s:=(p1.t,p1.left)) i1 e2).1;obtain ⟨i3,e4,_⟩:=dp i2 e3;obtain ⟨c1,c2⟩:=dW i3 e4
         congr 2
         apply List.map_congr_left
         intro i hi;exact sp (c1.2 _ (by have:=List.mem_range.1 hi;omega))
theorem tN (A:List (List Int)) (B:List Int) (C:List (Int × Int)):eB A B C=bO bh A B C:=by
 unfold eB bO
 split
 ·next ok =>
  rcases rawS_eq ok with h|⟨h1,r,h2,h3⟩
  ·rw [h];cases rawT A B C <;> rfl
  ·rw [h1,h2];simp only;rw [h3];rfl
 ·rfl
theorem lU {A:List (List Int)} {B:List Int} {C:List (Int × Int)} (hn:okLP A B C=true->∀ j,j<C.length->niceC A C j):bO aK A B C=eB A B C:=by rw [tN];exact solve_eq hn
theorem raw_val {A:List (List Int)} {B:List Int} {C:List (Int × Int)} (ok:okLP A B C=true) {r:LpR} (h:rawT A B C=some r) (hs:r.status=1) :
 r.Y.length=B.length/\valR r.value=true/\(∀ k,k<r.Y.length->valR (r.Y[k]?.getD (0,0))=true):=by
 obtain ⟨h1,h2,h3,h4,h5,h6⟩:=eT ok;unfold rawT at h;rw [h3] at h;cases e1:aV (dD C.length A.length) 1000 (bF A B C.length) with
 | none=>rw [e1] at h;cases h
 | some p1 =>
   rw [e1] at h;simp only [Option.bind_some] at h
   split at h
   ·rw [Option.map_eq_some_iff] at h;obtain ⟨Y,_,rfl⟩:=h;cases hs
   ·cases e2:bo C.length (p1.t,p1.left) A.length with
    | none=>rw [e2] at h;cases h
    | some s =>
      rw [e2] at h;simp only [Option.bind_some] at h;rw [Option.map_eq_some_iff] at h;obtain ⟨p2,e3,h⟩:=h
      split at h
      ·subst h;cases hs
      ·have i1:=(dp (gm ok) e1).1;have i2:=(eQ (s:=(p1.t,p1.left)) i1 e2).1;obtain ⟨i3,e4,_⟩:=dp i2 e3;obtain ⟨c1,c2⟩:=dW i3 e4;subst h;refine ⟨by simp [h3],?_,fun k hk=>?_⟩
       ·simp only;rw [cn];exact c1.2 _ (by omega)
       ·simp only [List.length_map,List.length_range] at hk;simp only;rw [List.getElem?_map,List.getElem?_range hk,Option.map_some,Option.getD_some];have hv:=c1.2 (C.length+k) (by omega);unfold dw sgnR
        split
        ·rw [cn,cn];exact hv
        ·rw [cn];exact hv
theorem dq {bound:List (List Int)->List (Int × Int)->List (Int × Int)->Nat->Bool} {A:List (List Int)} {B:List Int} {C:List (Int × Int)} (h:(bO bound A B C).status=1) :
 okLP A B C=true/\rawT A B C=some (bO bound A B C)/\aD bound A B C (bO bound A B C)=true/\(bO bound A B C).Y.length=B.length/\valR (bO bound A B C).value=true/\∀ k,k<(bO bound A B C).Y.length->valR ((bO bound A B C).Y[k]?.getD (0,0))=true:=by
 cases ok:okLP A B C with
 | false=>unfold bO at h;rw [if_neg (by rw [ok];simp)] at h;cases h
 | true =>
   cases hr:rawT A B C with
   | none =>
     have e:bO bound A B C=aO 4:=by unfold bO;rw [if_pos ok,hr]
     rw [e] at h;cases h
   | some r =>
     have e:bO bound A B C=if aD bound A B C r=true then r else aO 4:=by unfold bO;rw [if_pos ok,hr]
     by_cases hc:aD bound A B C r=true
     ·rw [if_pos hc] at e;rw [e] at h ⊢;have:=raw_val ok hr h;exact ⟨rfl,rfl,hc,this⟩
     ·rw [if_neg hc] at e;rw [e] at h;cases h
end Go.Proofs.YthjjfkeacobikaaGreat
