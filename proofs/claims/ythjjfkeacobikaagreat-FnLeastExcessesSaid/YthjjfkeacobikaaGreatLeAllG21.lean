import Derived.Test.YthjjfkeacobikaaGreatLeAllG20
import Derived.Test.YthjjfkeacobikaaGreatLeAllG6
import Derived.Test.YthjjfkeacobikaaGreatLeAllG17
set_option linter.unusedVariables false
set_option linter.unusedSimpArgs false
namespace Go.Proofs.YthjjfkeacobikaaGreat
set_option maxRecDepth 100000
open Go.RowKit
def LpcR (w:World) (e:Ending) (A:List (List Int)) (B:List Int) (C:List (Int × Int)) (ok:Bool):Prop :=
 ∃ a na ca b nb cb c nc cc,e=.returned (.tuple #[lpW a na ca b nb cb c nc cc,.bool ok])/\(ok=true->LpC w a na ca b nb cb c nc cc A B C)
theorem fX (p:Nat->Bool) (k:Nat):(List.range (k+1)).all p=((List.range k).all p&&p k):=by
 rw [List.range_succ,List.all_append];simp
theorem cY {p:Nat->Bool} {k n:Nat} (h:k<n) (hp:p k=false):(List.range n).all p=false:=by
 rw [List.all_eq_false];exact ⟨k,List.mem_range.2 h,by simp [hp]⟩
theorem oy (x:Int) (w:World):Calls Tryz.prog 247 #[.int .i64 x] w fun e w'=>e=.returned (.bool (!inB x (-5000) 5000))/\w=w':=by
 go_enter Tryz.func247,Tryz.ntmps247
 go_wp2_with (first|(go_at_call 80;refine (aX _ _ _ _).mono ?_;rintro e w' ⟨rfl,rfl⟩));go_ret;exact ⟨rfl,rfl⟩
theorem jf:IsGo Tryz.prog 247:=isGo Tryz.func247 (by kernel_rfl) (by kernel_rfl)
theorem ig (w:World):Asks Tryz.prog w 247 #[] (fun x=>!inB x (-5000) 5000) :=
 fun x w1 _=>(oy x w1).mono fun e w' ⟨he,hw⟩=>⟨he,hw ▸ Ext.refl _⟩
def dE (m:Nat) (r:List Int):Bool:=decide (r.length=m)&&r.all (inB · (-5000) 5000)
theorem lZ (l:List Int):l.any (fun x=>!inB x (-5000) 5000)=!l.all (inB · (-5000) 5000):=by rw [List.not_all_eq_any_not]
theorem iy (A:List (List Int)) (B:List Int) (C:List (Int × Int)):okLP A B C=(decide (C.length<=70)&&(decide (A.length<=8)&&(decide (B.length=A.length)&&(allV C&&(A.all (dE C.length)&&B.all (inB · (-5000) 5000)))))):=rfl
theorem mK {p:List Int->Bool} {l:List (List Int)} {k:Nat} (h:k<l.length):(l.take (k+1)).all p=((l.take k).all p&&p (l[k]?.getD [])):=by
 rw [eW h];simp
theorem gD {p:List Int->Bool} {l:List (List Int)} {k:Nat} (h:k<l.length) (hb:p (l[k]?.getD [])=false):l.all p=false:=by
 rw [List.all_eq_false];exact ⟨l[k],List.getElem_mem h,by rw [List.getElem?_eq_getElem h] at hb;simpa using hb⟩
section
variable {w:World} {a:Option Addr} {na ca:Nat} {b:Option Addr} {nb cb:Nat} {c:Option Addr} {nc cc:Nat} {A:List (List Int)} {B:List Int} {C:List (Int × Int)}
set_option maxHeartbeats 8000000 in
theorem ee (h:LpC w a na ca b nb cb c nc cc A B C) :
 Calls Tryz.prog 197 #[lpW a na ca b nb cb c nc cc] w fun e w'=>e=.returned (.bool (okLP A B C))/\Ext w w':=by
 have hx0:=Ext.alloc w (be a na ca b nb cb c nc cc);have HX0:=ae hx0;have H:=ae (h.ext hx0);have HE:=ae (iy A B C);have ha1:=h.a.hcap;have ha2:=h.a.hmax;have hb1:=h.b.hcap;have hb2:=h.b.hmax;have hc1:=h.c.hcap;have hc2:=h.c.hmax;have HLA:=ae h.a.hlen;have HLB:=ae h.b.hlen;have HLC:=ae h.c.hlen;clear h hx0;by_cases h1:nc<=70
 ·by_cases h2:na<=8
  ·by_cases h3:nb=na
   ·subst h3;have hbb:((nb:Int) != (nb:Int))=false:=by simp
    have HE2:=ae (show okLP A B C=(allV C&&(A.all (dE nc)&&B.all (inB · (-5000) 5000))) by
     rw [HE.out,HLA.out,HLB.out,HLC.out,decide_eq_true h1,decide_eq_true h2,decide_eq_true rfl];rfl)
    have HV:=ae (lm H.out.c);cases hv:allV C
    ·rw [hv] at HV HE2;clear hv;go_enter Tryz.func197,Tryz.ntmps197
     go_wp2_with fail;refine HV.out.mono ?_;rintro e w1 ⟨rfl,hx⟩;have X1:=ae (HX0.out.trans hx);clear hx;go_wp2_with fail;go_ret;exact ⟨ag HE2.out.symm,X1.out⟩
    ·rw [hv] at HV HE2;clear hv;go_enter Tryz.func197,Tryz.ntmps197
     go_wp2_with fail;refine HV.out.mono ?_;rintro e w1 ⟨rfl,hx⟩;have hc0:w1.cell? ⟨w.heap.size,0,none⟩=some (.slice a nb ca):=hx.cellSome (by simp);have hcb:w1.cell? ⟨w.heap.size,1,none⟩=some (.slice b nb cb):=hx.cellSome (by simp);have hcc:w1.cell? ⟨w.heap.size,2,none⟩=some (.slice c nc cc):=hx.cellSome (by simp);have HC1:=ae hcb;have HC2:=ae hcc;have H1:=ae (H.out.ext hx);have X1:=ae (HX0.out.trans hx);clear hx hcb hcc;go_wp2_with fail
     go_loopg [34] nb (fun gk ii wr=>∃ k:Nat,Hid (gk+k=nb)/\ii=.int .i64 (k:Int)/\Hid ((A.take k).all (dE nc)=true)/\Hid (Ext w1 wr))
     case atStart=>exact ⟨0,ae (by omega),rfl,ae rfl,ae (Ext.refl _)⟩
     case round =>
      obtain ⟨g1,h_g1⟩:∃ x,x=gk:=⟨_,rfl⟩;subst h_g1;obtain ⟨wr1,h_wr1⟩:∃ x,x=wr:=⟨_,rfl⟩;subst h_wr1;obtain ⟨k,HK,rfl,HA,HX⟩:=hrel;clear hc0;by_cases hlt:k<nb
      ·obtain ⟨gb,goff,ra,rn,rc,hga,hgc,hrow⟩:=(H1.out.ext HX.out).a.at hlt;subst hga;have hcc:=HX.out.cellSome HC2.out;have HLR:=ae hrow.hlen;have hrn:=hrow.hcap;have hrm:=hrow.hmax;have HKA:=ae (show k<A.length by rw [HLA.out];exact hlt);have HCF:=ae (eh hrow jf (ig _));clear hrow;cases hl:((rn:Int) != (nc:Int))
       ·cases hr:(A[k]?.getD []).all (inB · (-5000) 5000)
        ·have HF:=ae (show okLP A B C=false by
          rw [HE2.out,gD HKA.out (by unfold dE;rw [hr];simp)];rfl)
         rw [lZ,hr] at HCF;clear hr;go_wp2_with fail;refine HCF.out.mono ?_;rintro e w2 ⟨rfl,hx2⟩;have X2:=ae ((X1.out.trans HX.out).trans hx2);clear hx2;go_wp2_with fail;go_ret;exact ⟨ag HF.out.symm,X2.out⟩
        ·have HT:=ae (show (A.take (k+1)).all (dE nc)=true by
          rw [mK HKA.out,HA.out];unfold dE;rw [hr,HLR.out];simp at hl ⊢;omega)
         rw [lZ,hr] at HCF;clear hr;go_wp2_with fail;refine HCF.out.mono ?_;rintro e w2 ⟨rfl,hx2⟩;have X2:=ae (HX.out.trans hx2);clear hx2;go_wp2_with fail
         go_roundg (g1-1)
         case measure=>have:=HK.out;omega
         case rel=>exact ⟨k+1,ae (by have:=HK.out;omega),by go_num,HT,X2⟩
       ·have HF:=ae (show okLP A B C=false by
         rw [HE2.out,gD HKA.out (by unfold dE;rw [HLR.out,decide_eq_false (by simp at hl;omega)];rfl)];rfl)
        go_wp2_with fail;go_ret;exact ⟨ag HF.out.symm,X1.out.trans HX.out⟩
      ·have hkn:nb=k:=by have:=HK.out;omega
       subst hkn;have HT:=ae (show A.all (dE nc)=true by have:=HA.out;rwa [List.take_of_length_le (by rw [HLA.out];exact Nat.le_refl _)] at this);have hcb:=HX.out.cellSome HC1.out;have HCF:=ae (eh (H1.out.ext HX.out).b jf (ig _));rw [lZ] at HCF;go_wp2_with fail;refine HCF.out.mono ?_;rintro e w2 ⟨rfl,hx2⟩;have X2:=ae ((X1.out.trans HX.out).trans hx2);clear hx2;go_wp2_with fail;go_ret;exact ⟨ag (by rw [HE2.out,HT.out];simp),X2.out⟩
   ·have HF:=ae (show okLP A B C=false by rw [HE.out,HLA.out,HLB.out,decide_eq_false h3];simp);have hbb:((nb:Int) != (na:Int))=true:=by simp;omega
    go_enter Tryz.func197,Tryz.ntmps197
    go_wp2_with fail;go_ret;exact ⟨ag HF.out.symm,HX0.out⟩
  ·have HF:=ae (show okLP A B C=false by rw [HE.out,HLA.out,decide_eq_false h2];simp);go_enter Tryz.func197,Tryz.ntmps197
   go_wp2_with fail;go_ret;exact ⟨ag HF.out.symm,HX0.out⟩
 ·have HF:=ae (show okLP A B C=false by rw [HE.out,HLC.out,decide_eq_false h1];simp);go_enter Tryz.func197,Tryz.ntmps197
  go_wp2_with fail;go_ret;exact ⟨ag HF.out.symm,HX0.out⟩
end
end Go.Proofs.YthjjfkeacobikaaGreat
namespace Go.Proofs.YthjjfkeacobikaaGreat
set_option maxRecDepth 100000
open Go.RowKit
theorem fo {r:List Int} (h:∀ x ∈ r,-5000<=x/\x<=5000):dT r=au r:=by
 unfold dT fitL;rw [if_pos];rw [List.all_eq_true];intro x hx;have:=h x hx;simp [inB];omega
def fE (A:List (List Int)) (x:List (Int × Int)) (B:List Int) (i:Nat):Bool:=decide (dotL (au (A[i]?.getD [])) x=some (B[i]?.getD 0,1))
theorem mV (A:List (List Int)) (x:List (Int × Int)) (B:List Int):dd A x B=(List.range A.length).all (fE A x B):=rfl
set_option maxHeartbeats 8000000 in
theorem qp {w:World} {a:Option Addr} {na ca:Nat} {b:Option Addr} {nb cb:Nat} {c:Option Addr} {nc cc:Nat} {A:List (List Int)} (h:dV w a na ca A) {xa:Option Addr} {xn xcap:Nat} {X:List (Int × Int)} (hX:Rats w xa xn xcap X)
 {da:Option Addr} {dn dcap:Nat} {D:List Int} (hD:Ints w da dn dcap D) (hdn:na<=dn) (hrow:∀ i,i<na->(A[i]?.getD []).length<=70/\∀ x ∈ A[i]?.getD [],-5000<=x/\x<=5000) :
 Calls Tryz.prog 257 #[lpW a na ca b nb cb c nc cc,.slice xa xn xcap,.slice da dn dcap] w fun e w'=>e=.returned (.bool (dd A X D))/\Ext w w':=by
 have hx0:=Ext.alloc w (be a na ca b nb cb c nc cc);have HX0:=ae hx0;have HI:=ae (h.ext hx0);have HXX:=ae (hX.ext hx0);have HDD:=ae (hD.ext hx0);have HRW:=ae hrow;have ha1:=h.hcap;have ha2:=h.hmax;have hd1:=hD.hcap;have hd2:=hD.hmax;have HLA:=ae h.hlen;have HE:=ae (show dd A X D=(List.range na).all (fE A X D) by rw [mV,HLA.out]);clear h hX hD hx0 hrow;go_enter Tryz.func257,Tryz.ntmps257
 go_wp2_with fail
 go_loopg [14] na (fun gk ii wr=>∃ k:Nat,Hid (gk+k=na)/\ii=.int .i64 (k:Int)/\Hid ((List.range k).all (fE A X D)=true)/\Hid (Ext (w.alloc (be a na ca b nb cb c nc cc)) wr))
 case atStart=>exact ⟨0,ae (by omega),rfl,ae rfl,ae (Ext.refl _)⟩
 case round =>
  obtain ⟨g1,h_g1⟩:∃ x,x=gk:=⟨_,rfl⟩;subst h_g1;obtain ⟨wr1,h_wr1⟩:∃ x,x=wr:=⟨_,rfl⟩;subst h_wr1;obtain ⟨k,HK,rfl,HA,HX⟩:=hrel;have hsz:=HX.out.size;rw [World.size_alloc] at hsz;by_cases hlt:k<na
  ·obtain ⟨gb,goff,ra,rn,rc,hga,hgc,hrow⟩:=(HI.out.ext HX.out).at hlt;subst hga;have hrn:rn<=70:=by rw [<-hrow.hlen];exact (HRW.out k hlt).1
   have HRT:=ae (hI hrow (by omega));rw [fo (HRW.out k hlt).2] at HRT;clear hrow;go_wp2_with fail;refine HRT.out.mono ?_;rintro e w2 ⟨⟨v2,rfl,ho2⟩,hx2⟩;obtain ⟨a2,n2,c2,rfl,hn2⟩:=ho2.var;have X2:=ae (HX.out.trans hx2);have HD:=ae (fh ho2.rats (HXX.out.ext X2.out));clear ho2 hx2 hn2;obtain ⟨dv,hdv⟩:∃ d,d=dotL (au (A[k]?.getD [])) X:=⟨_,rfl⟩;have HG:=ae (show fE A X D k=decide (dv=some (D[k]?.getD 0,1)) by rw [hdv];rfl);rw [<-hdv] at HD;clear hdv;obtain ⟨db,doff,hda,hdc⟩:=(HDD.out.ext X2.out).at (show k<dn by omega);subst hda;obtain ⟨d,hd⟩:∃ d,d=D[k]?.getD 0:=⟨_,rfl⟩;rw [<-hd] at HG hdc;clear hd;cases dv with
   | none =>
     rw [show optR none=((0,0),false) from rfl] at HD;have HF:=ae (show dd A X D=false by rw [HE.out];exact cY hlt (by rw [HG.out];rfl));go_wp2_with fail;refine HD.out.mono ?_;rintro e w3 ⟨rfl,hx3⟩;have X3:=ae (X2.out.trans hx3);clear hx3 hdc;obtain ⟨E,hE⟩:∃ E,E=w3.alloc (.cells #[.int .i64 0,.int .i64 0] 43):=⟨_,rfl⟩;have XE:=ae (show Ext w3 E by rw [hE];exact Ext.alloc _ _);go_upto_region 5 with fail;rw [<-hE];clear hE;have hk2:Ext E E.drew:=Ext.drew E;refine wp_region_held_drew (S:=(fun w'=>Ext E w')) (by kernel_rfl) ?_ (fun hHeld=>?_)
     ·exact hk2
     refine tk 0 ?_;refine tk 1 ?_;refine tk 2 ?_;refine sk 3 ?_;refine sk 4 ?_;refine sk 5 ?_;refine sk 6 ?_;refine sk 7 ?_;refine sk 8 ?_;refine sk 9 ?_;refine tk 10 ?_;refine wpAnyH_done (by kernel_rfl) ?_ _;go_wp2_with fail;go_ret;exact ⟨ag HF.out.symm,((HX0.out.trans X3.out).trans XE.out).trans hk2⟩
   | some r =>
     obtain ⟨r1,r2⟩:=r;rw [show optR (some (r1,r2))=((r1,r2),true) from rfl] at HD;go_wp2_with fail;refine HD.out.mono ?_;rintro e w3 ⟨rfl,hx3⟩;replace hdc:=hx3.cellSome hdc;have X3:=ae (X2.out.trans hx3);clear hx3;obtain ⟨E,hE⟩:∃ E,E=w3.alloc (.cells #[.int .i64 r1,.int .i64 r2] 43):=⟨_,rfl⟩;have hxE:Ext w3 E:=by rw [hE];exact Ext.alloc _ _
     have XE:=ae (X3.out.trans hxE);have e0:=hxE.cellSome hdc;have b0:E.cell? ⟨w3.heap.size,0,none⟩=some (.int .i64 r1):=by rw [hE];simp
     have b1:E.cell? ⟨w3.heap.size,1,none⟩=some (.int .i64 r2):=by rw [hE];simp
     go_upto_region 5 with fail;rw [<-hE];clear hE hdc hxE;have hkd:(k:Int)<(dn:Int):=by omega
     have hk0:(0:Int)<=(k:Int):=by omega
     have hk2:Ext E E.drew:=Ext.drew E;have HKEEP:=ae (fun (w':World) (h:Ext E w')=>(⟨h.cellSome e0,h.cellSome b0,h.cellSome b1,h⟩:w'.cell? ⟨db,doff+k,none⟩=some (.int .i64 d)/\w'.cell? ⟨w3.heap.size,0,none⟩=some (.int .i64 r1)/\w'.cell? ⟨w3.heap.size,1,none⟩=some (.int .i64 r2)/\Ext E w'));have HG2:=ae (show fE A X D k=((r1 == d)&&(r2 == 1)) by rw [HG.out,Bool.eq_iff_iff];simp);cases hx1:(r1 == d)
     all_goals
      cases hy1:(r2 == 1)
     all_goals
      have HG3:=ae HG2.out;rw [hx1,hy1] at HG3
      go_region_held3 (fun w'=>w'.cell? ⟨db,doff+k,none⟩=some (.int .i64 d)/\w'.cell? ⟨w3.heap.size,0,none⟩=some (.int .i64 r1)/\w'.cell? ⟨w3.heap.size,1,none⟩=some (.int .i64 r2)/\Ext E w')
       (first
         | with_reducible exact HKEEP.out _ hk2)
       (first
         | (go_at_call 112
            (with_reducible refine (cK _ _).mono ?_)
            rintro e w5 ⟨rfl,hx5⟩
            have hk2:Ext E w5:=hk2.trans hx5)
         | fail)
      have X5:=ae (XE.out.trans hk2);clear hk2
     all_goals try (
      have HF:=ae (show dd A X D=false by rw [HE.out];exact cY hlt (by rw [HG3.out];rfl));go_wp2_with fail;go_ret
      exact ⟨ag HF.out.symm,HX0.out.trans X5.out⟩)
     have HT:=ae (show (List.range (k+1)).all (fE A X D)=true by rw [fX,HA.out,HG3.out];rfl);go_wp2_with fail
     go_roundg (g1-1)
     case measure=>have:=HK.out;omega
     case rel=>exact ⟨k+1,ae (by have:=HK.out;omega),by go_num,HT,X5⟩
  ·have hkn:na=k:=by have:=HK.out;omega
   subst hkn;go_wp2_with fail;go_ret;exact ⟨ag (by rw [HE.out,HA.out]),HX0.out.trans HX.out⟩
section
variable {w:World} {a:Option Addr} {na ca:Nat} {b:Option Addr} {nb cb:Nat} {c:Option Addr} {nc cc:Nat} {A:List (List Int)} {B:List Int} {C:List (Int × Int)}
theorem cj (h:LpC w a na ca b nb cb c nc cc A B C) (ok:okLP A B C=true):nc<=70/\na<=8/\nb=na/\(∀ i,i<na->(A[i]?.getD []).length=nc)/\(∀ i,i<na->(A[i]?.getD []).length<=70/\∀ x ∈ A[i]?.getD [],-5000<=x/\x<=5000)/\∀ x ∈ B,-5000<=x/\x<=5000:=by
 have l1:=h.a.hlen;have l2:=h.b.hlen;have l3:=h.c.hlen;rw [iy] at ok;simp only [Bool.and_eq_true,decide_eq_true_eq,List.all_eq_true,dE,inB] at ok;obtain ⟨h1,h2,h3,h4,h5,h6⟩:=ok;have key:∀ i,i<na->(A[i]?.getD []).length=nc/\∀ x ∈ A[i]?.getD [],-5000<=x/\x<=5000:=by
  intro i hi;rw [List.getElem?_eq_getElem (by omega),Option.getD_some];have:=h5 _ (List.getElem_mem (l:=A) (n:=i) (by omega));exact ⟨by omega,this.2⟩
 exact ⟨by omega,by omega,by omega,fun i hi=>(key i hi).1,fun i hi=>⟨by have:=(key i hi).1;omega,(key i hi).2⟩,h6⟩
set_option maxHeartbeats 4000000 in
theorem js (h:LpC w a na ca b nb cb c nc cc A B C) {xa:Option Addr} {xn xcap:Nat} {X:List (Int × Int)} (hX:Rats w xa xn xcap X) :
 Calls Tryz.prog 253 #[lpW a na ca b nb cb c nc cc,.slice xa xn xcap] w fun e w'=>e=.returned (.bool (okLP A B C&&dj A B C.length X))/\Ext w w':=by
 have hx0:=Ext.alloc w (be a na ca b nb cb c nc cc);have HX0:=ae hx0;have H:=ae (h.ext hx0);have HXX:=ae (hX.ext hx0);have HLC:=ae h.c.hlen;have HLA:=ae h.a.hlen;have hc1:=h.c.hcap;have hc2:=h.c.hmax;have HO:=ae (fun ok=>cj h ok);have HV:=ae (ee H.out);clear h hX hx0;cases hok:okLP A B C
 ·rw [hok] at HV;clear hok;go_enter Tryz.func253,Tryz.ntmps253
  go_wp2_with fail;refine HV.out.mono ?_;rintro e w1 ⟨rfl,hx⟩;have X1:=ae (HX0.out.trans hx);clear hx;go_wp2_with fail;go_ret;exact ⟨rfl,X1.out⟩
 ·rw [hok] at HV;have HR:=ae (HO.out hok);obtain ⟨r1,r2,r3,_,_,_⟩:=HO.out hok;subst r3;have HN:=ae (fun (w':World) (hx:Ext (w.alloc (be a nb ca b nb cb c nc cc)) w')=>jg (HXX.out.ext hx) nc);have HE:=ae (show (true&&dj A B C.length X)=((decide (X.length=nc)&&posV X)&&dd A X B) by unfold dj;rw [HLC.out,Bool.true_and,Bool.and_assoc]);clear hok;cases hn:(decide (X.length=nc)&&posV X)
  ·rw [hn] at HN HE;clear hn;go_enter Tryz.func253,Tryz.ntmps253
   go_wp2_with fail;refine HV.out.mono ?_;rintro e w1 ⟨rfl,hx⟩;have hcc:w1.cell? ⟨w.heap.size,2,none⟩=some (.slice c nc cc):=hx.cellSome (by simp);have X1:=ae hx;clear hx;go_wp2_with fail;refine (HN.out _ X1.out).mono ?_;rintro e w2 ⟨rfl,hx⟩;have X2:=ae ((HX0.out.trans X1.out).trans hx);clear hx;go_wp2_with fail;go_ret;exact ⟨ag (by rw [HE.out];rfl),X2.out⟩
  ·rw [hn] at HN HE;clear hn;go_enter Tryz.func253,Tryz.ntmps253
   go_wp2_with fail;refine HV.out.mono ?_;rintro e w1 ⟨rfl,hx⟩;have hca:w1.cell? ⟨w.heap.size,0,none⟩=some (.slice a nb ca):=hx.cellSome (by simp);have hcb:w1.cell? ⟨w.heap.size,1,none⟩=some (.slice b nb cb):=hx.cellSome (by simp);have hcc:w1.cell? ⟨w.heap.size,2,none⟩=some (.slice c nc cc):=hx.cellSome (by simp);have X1:=ae hx;clear hx;go_wp2_with fail;refine (HN.out _ X1.out).mono ?_;rintro e w2 ⟨rfl,hx⟩;replace hca:=hx.cellSome hca;replace hcb:=hx.cellSome hcb;replace hcc:=hx.cellSome hcc;have X2:=ae (X1.out.trans hx);clear hx;have HG:=ae (qp (b:=b) (nb:=nb) (cb:=cb) (c:=c) (nc:=nc) (cc:=cc) (H.out.ext X2.out).a (HXX.out.ext X2.out) (H.out.ext X2.out).b (Nat.le_refl _) HR.out.2.2.2.2.1);go_wp2_with fail;refine HG.out.mono ?_;rintro e w3 ⟨rfl,hx⟩;have X3:=ae ((HX0.out.trans X2.out).trans hx);clear hx;go_wp2_with fail;go_ret;exact ⟨ag (by rw [HE.out];rfl),X3.out⟩
end
end Go.Proofs.YthjjfkeacobikaaGreat
