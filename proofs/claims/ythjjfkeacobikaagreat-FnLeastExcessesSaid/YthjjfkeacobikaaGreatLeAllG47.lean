import Derived.Test.YthjjfkeacobikaaGreatLeAllG14
import Derived.Test.YthjjfkeacobikaaGreatLeAllG12
import Derived.Test.YthjjfkeacobikaaGreatLeAllG23
import Derived.Test.YthjjfkeacobikaaGreatLeAllG42
import Derived.Test.YthjjfkeacobikaaGreatLeAllG4
set_option linter.unusedVariables false
set_option linter.unusedSimpArgs false
namespace Go.Proofs.YthjjfkeacobikaaGreat
set_option maxRecDepth 100000
open Go.RowKit
theorem Rats.dropIf {w:World} {b n cap:Nat} {l:List (Int × Int)} (h:Rats w (some ⟨b,0,none⟩) n cap l) {k:Nat} (hk:k<=n):Rats w (if cap=k then some ⟨b,0,none⟩ else some ⟨b,k*2,none⟩) (n-k) (cap-k) (l.drop k):=by
 have hc:=h.hcap
 split
 ·exact ⟨by rw [List.length_drop,h.hlen],by omega,by have:=h.hmax;omega,fun j hj=>absurd hj (by omega)⟩
 ·refine ⟨by rw [List.length_drop,h.hlen],by omega,by have:=h.hmax;omega,fun j hj=>⟨b,k*2,rfl,fun i hi=>?_⟩⟩;obtain ⟨b',off',e,hcc⟩:=h.cell (j+k) (by omega);simp only [Option.some.injEq,Addr.mk.injEq,and_true] at e;obtain ⟨rfl,rfl⟩:=e;have:=hcc (k+i) (by omega);rw [List.getElem?_drop,show k*2+i*2=0+(k+i)*2 by omega];exact this
theorem getQ (l:List (Int × Int)) (k:Nat):∃ x y,l[k]?.getD (0,0)=(x,y):=⟨_,_,rfl⟩
set_option maxHeartbeats 8000000 in
theorem iA {w:World} {p:Int} {a:Option Addr} {n cap:Nat} {V:List Int} (h:Ints w a n cap V) {b:Option Addr} {m mcap:Nat} {X:List (Int × Int)} (hx:Rats w b m mcap X) :
 Calls Tryz.prog 59 #[pair p a n cap,.slice b m mcap] w fun e w'=>(∃ v,e=.returned v/\OwnR w' w.heap.size v (srtX ((allX p V X).getD [])))/\Ext w w':=by
 have HX:=ae (Ext.alloc w (.cells #[.int .i64 p,.slice a n cap] 29));have HE:=ae (ph (p:=p) (h.ext HX.out) (hx.ext HX.out))
 have HNL:=ae (show ((allX p V X).getD []).length<=1000 by
  cases hA:allX p V X with
  | none=>simp
  | some l =>
    obtain ⟨q,_,h1,h5,hlen,_,_⟩:=bd (fs (dQ hA).1);have:=cX q h5;have h3:=(dQ hA).2;simp only [Option.getD_some]
    omega)
 obtain ⟨l,hl⟩:∃ l,l=(allX p V X).getD []:=⟨_,rfl⟩;rw [<-hl] at HE HNL ⊢;clear h hx hl;go_enter Tryz.func59,Tryz.ntmps59
 go_wp2_with fail;refine HE.out.mono ?_;rintro e w1 ⟨⟨v,rfl,ho⟩,hx1⟩;obtain ⟨la,n1,c1,rfl,HN1⟩:=ho.var;have HL:=ae ho.rats.hlen;have HLR:=ae ho.rats;have hn1:n1<=1000:=by have:=HL.out;have:=HNL.out;omega
 have hlc:=ho.rats.hcap;have hlm:=ho.rats.hmax;have X1:=ae (HX.out.trans hx1);have HO0:=ae (OwnR.madeE w1 w1.heap.size _ rfl (Nat.le_refl _));clear ho hx1 HE HN1 HNL;go_wp2_with fail
 go_loopg [7,8] n1 (fun gk oo ii wr=>∃ (k g p1:Nat),Hid (gk+k=n1)/\oo=.slice (some ⟨g,0,none⟩) k p1/\ii=.int .i64 (k:Int)/\Hid (OwnR wr w1.heap.size (.slice (some ⟨g,0,none⟩) k p1) (srtT l k))/\Hid (Ext w1 wr))
 case atStart=>exact ⟨0,_,_,ae (by omega),rfl,rfl,HO0,ae (Ext.alloc _ _)⟩
 case round =>
  obtain ⟨g1,h_g1⟩:∃ x,x=gk:=⟨_,rfl⟩;subst h_g1;obtain ⟨wr1,h_wr1⟩:∃ x,x=wr:=⟨_,rfl⟩;subst h_wr1;obtain ⟨k,g,p1,HK,rfl,rfl,HO1,HX1⟩:=hrel;have hpc:=HO1.out.rats.hcap;have hpm:=HO1.out.rats.hmax;by_cases hlt:k<n1
  ·obtain ⟨ab,ao,x,y,rfl,hxy,ca0,ca1⟩:=HLR.out.at hlt;have HXY:=ae hxy;clear hxy;go_wp2_with fail
   go_loopg [9] k (fun gk tt wr=>∃ (j:Nat),Hid (gk=j)/\Hid (j<=k)/\tt=.int .i64 (j:Int)/\Hid (OwnR wr w1.heap.size (.slice (some ⟨g,0,none⟩) k p1) (srtT l k))/\Hid (Ext w1 wr)/\Hid (posX (x,y) (srtT l k) k=posX (x,y) (srtT l k) j))
   case atStart=>exact ⟨k,ae rfl,ae (Nat.le_refl _),rfl,HO1,HX1,ae rfl⟩
   case round =>
    obtain ⟨g2,h_g2⟩:∃ x,x=gk:=⟨_,rfl⟩;subst h_g2;obtain ⟨wr2,h_wr2⟩:∃ x,x=wr:=⟨_,rfl⟩;subst h_wr2;obtain ⟨j,HG2,HJ,rfl,HO2,HX2,HP⟩:=hrel;have hjk:=HJ.out;have hk2:Ext wr2 wr2.drew:=Ext.drew wr2;by_cases hj0:j=0;rotate_left;obtain ⟨q,hjq⟩:∃ q,j=q+1:=⟨j-1,by omega⟩;obtain ⟨u,v,huv⟩:=getQ (srtT l k) q;obtain ⟨xb2,xo2,u2,v2,he2,huv2,cb0,cb1⟩:=HO2.out.rats.at (k:=q) (by omega);simp only [Option.some.injEq,Addr.mk.injEq,and_true] at he2;obtain ⟨hz1,hz2⟩:=he2;subst hz1 hz2;rw [huv] at huv2;simp only [Prod.mk.injEq] at huv2;obtain ⟨rfl,rfl⟩:=huv2;rw [Nat.zero_add] at cb0 cb1;have ca0':=HX2.out.cellSome ca0;have ca1':=HX2.out.cellSome ca1;have hjg:0<j:=by omega
    have hqk:q<k:=by omega
    have HJQ:=ae hjq;have HUV:=ae huv;have hw1:IntKind.i64.wrap ((j:Int)-1)=(q:Int):=by rw [IntKind.wrap_i64];omega
    have hw2:wrap64 ((j:Int)-1)=(q:Int):=by unfold wrap64;omega
    have hw3:(j:Int)-1=(q:Int):=by omega
    have hw4:IntKind.i64.wrap (q:Int)=(q:Int):=by rw [IntKind.wrap_i64];omega
    have hw5:wrap64 (q:Int)=(q:Int):=by unfold wrap64;omega
    obtain ⟨K,hK⟩:∃ K,K=cmpR (u,v) (x,y):=⟨_,rfl⟩;have HKK:=ae hK;clear huv hjq hK hk2 hj0;by_cases hneg:K<0
    ·skip
     have hk2:Ext wr2 wr2.drew:=Ext.drew wr2;have hka:=hk2;have HKEEP:=ae (fun (w':World) (h:Ext wr2 w')=>(⟨h.cellSome cb0,h.cellSome cb1,h.cellSome ca0',h.cellSome ca1',h⟩:w'.cell? ⟨g,q*2,none⟩=some (.int .i64 u)/\w'.cell? ⟨g,q*2+1,none⟩=some (.int .i64 v)/\w'.cell? ⟨ab,ao+k*2,none⟩=some (.int .i64 x)/\w'.cell? ⟨ab,ao+k*2+1,none⟩=some (.int .i64 y)/\Ext wr2 w'));go_wp2_with fail
     go_region_held3 (fun w'=>w'.cell? ⟨g,q*2,none⟩=some (.int .i64 u)/\w'.cell? ⟨g,q*2+1,none⟩=some (.int .i64 v)/\w'.cell? ⟨ab,ao+k*2,none⟩=some (.int .i64 x)/\w'.cell? ⟨ab,ao+k*2+1,none⟩=some (.int .i64 y)/\Ext wr2 w')
      (with_reducible exact HKEEP.out _ hk2)
      (first
        | (go_at_call 147
           (with_reducible refine (eL _ _ _ _ _).mono ?_)
           rw [<-HKK.out];rintro e w5 ⟨rfl,hx_w5⟩;have hk2:Ext wr2 w5:=hk2.trans hx_w5
           have hs_w5:=hk2.size)
        | fail)
     clear HKEEP hka;clear hw1 hw2 hw3 hw4 hw5 cb0 cb1 ca0' ca1';have hw3:(j:Int)-1=(q:Int):=by have:=HJQ.out;omega
     have hw2:wrap64 ((j:Int)-1)=(q:Int):=by have:=HJQ.out;unfold wrap64;omega
     go_wp2_with fail;clear hw2 hw3
     go_roundg (g2-1)
     case measure=>have:=HG2.out;have:=HJQ.out;omega
     case rel=>exact ⟨q,ae (by have:=HG2.out;have:=HJQ.out;omega),ae (by omega),by go_num,ae (HO2.out.ext hk2),ae (HX2.out.trans hk2),ae (by rw [HP.out,HJQ.out,mA (by rw [HUV.out,<-HKK.out];exact hneg)])⟩
    focus
     have hk2:Ext wr2 wr2.drew:=Ext.drew wr2;have hka:=hk2;have HKEEP:=ae (fun (w':World) (h:Ext wr2 w')=>(⟨h.cellSome cb0,h.cellSome cb1,h.cellSome ca0',h.cellSome ca1',h⟩:w'.cell? ⟨g,q*2,none⟩=some (.int .i64 u)/\w'.cell? ⟨g,q*2+1,none⟩=some (.int .i64 v)/\w'.cell? ⟨ab,ao+k*2,none⟩=some (.int .i64 x)/\w'.cell? ⟨ab,ao+k*2+1,none⟩=some (.int .i64 y)/\Ext wr2 w'));go_wp2_with fail
     go_region_held3 (fun w'=>w'.cell? ⟨g,q*2,none⟩=some (.int .i64 u)/\w'.cell? ⟨g,q*2+1,none⟩=some (.int .i64 v)/\w'.cell? ⟨ab,ao+k*2,none⟩=some (.int .i64 x)/\w'.cell? ⟨ab,ao+k*2+1,none⟩=some (.int .i64 y)/\Ext wr2 w')
      (with_reducible exact HKEEP.out _ hk2)
      (first
        | (go_at_call 147
           (with_reducible refine (eL _ _ _ _ _).mono ?_)
           rw [<-HKK.out];rintro e w5 ⟨rfl,hx_w5⟩;have hk2:Ext wr2 w5:=hk2.trans hx_w5
           have hs_w5:=hk2.size)
        | fail)
     clear HKEEP hka;clear hw1 hw2 hw3 hw4 hw5 cb0 cb1 ca0' ca1';have HPJ:=ae (show posX (x,y) (srtT l k) k=j by rw [HP.out,HJQ.out,jv (by rw [HUV.out,<-HKK.out];omega)]);clear hqk
    rotate_left
    focus
     have HPJ:=ae (show posX (x,y) (srtT l k) k=j by rw [HP.out,hj0];rfl);have hjg:¬ 0<j:=by omega
     clear hj0;go_wp2_with fail;refine wp_region_held_drew (S:=(fun w'=>Ext wr2 w')) (by kernel_rfl) ?_ (fun hHeld=>?_)
     ·exact hk2
     refine tk 0 ?_;refine tk 1 ?_;refine tk 2 ?_;refine sk 3 ?_;refine sk 4 ?_;refine sk 5 ?_;refine sk 6 ?_;refine sk 7 ?_;refine sk 8 ?_;refine sk 9 ?_;refine sk 10 ?_;refine sk 11 ?_;refine sk 12 ?_;refine sk 13 ?_;refine tk 14 ?_;refine wpAnyH_done (by kernel_rfl) ?_ _;obtain ⟨w5,hw5⟩:∃ y,y=wr2.drew:=⟨_,rfl⟩;rw [<-hw5] at hk2 hHeld ⊢;clear hw5 hHeld
    all_goals
     have HOd:=ae (HO2.out.ext hk2);have Xd:=ae (HX2.out.trans hk2);have hgl:=(HOd.out.lt g rfl).2;have hgb:=(HOd.out.lt g rfl).1;have hs15:=Xd.out.size;have HSL:=ae (jb l k)
     have HSN:=ae (show (srtT l k).take j++[(x,y)]++(srtT l k).drop j=srtT l (k+1) by
      rw [srtT];unfold insX;rw [HXY.out,HSL.out,HPJ.out,List.append_assoc];rfl)
     clear hk2 hjg
     go_wp2_with (first
      | (at_builtin
         (have T1:=(OwnR.madeE w5 w5.heap.size _ rfl (Nat.le_refl _))
          have T2:=((HOd.out.ext (Ext.alloc w5 (.cells #[] 43))).rats.take hjk);refine aG rfl _ _ rfl w5.heap.size (.slice (some ⟨w5.heap.size,0,none⟩) 0 0) [] rfl T1 _ j p1 _ rfl T2 (by simp;omega) (by simp) ?_;intro v2 w6 ho hg hnear;rw [List.nil_append] at ho;obtain ⟨a2,n2,c2,rfl,HN2⟩:=ho.var;have HA:=ae ho;have HOe:=ae ((HOd.out.ext (Ext.alloc w5 (.cells #[] 43))).keep fun q hq=>hg.block q ((HOd.out.ext (Ext.alloc w5 (.cells #[] 43))).lt q hq).2 fun e=>by have h1:=Option.some.inj (show some w5.heap.size=some q from e.symm);have h2:=Option.some.inj (show some g=some q from hq);omega);have X6:=ae (ak (Xd.out.trans (Ext.alloc w5 (.cells #[] 43))) hg (fun q hq=>by have:=Option.some.inj (show some w5.heap.size=some q from hq);omega));have hs6:w5.heap.size<=w6.heap.size:=Nat.le_trans (by simp) hg.size;have ca0':=X6.out.cellSome ca0;have ca1':=X6.out.cellSome ca1
          clear ho hg hnear T1 T2))
      | (at_builtin
         (have T1:=HA.out.ext (Ext.alloc w6 (.cells #[.int .i64 x,.int .i64 y] 43))
          have T2:=Rats.one w6 x y 43;refine aG rfl _ _ rfl w5.heap.size (.slice a2 n2 c2) ((srtT l k).take j) rfl T1 _ 1 1 [(x,y)] rfl T2 (by have:=HSL.out;simp;omega) (by simp;omega) ?_;intro v3 w7 ho hg hnear;obtain ⟨a3,n3,c3,rfl,HN3⟩:=ho.var;have HB:=ae ho;have HOf:=ae ((HOe.out.ext (Ext.alloc w6 (.cells #[.int .i64 x,.int .i64 y] 43))).keep fun q hq=>hg.block q ((HOe.out.ext (Ext.alloc w6 (.cells #[.int .i64 x,.int .i64 y] 43))).lt q hq).2 fun e=>by have h1:=(HA.out.lt q e.symm).1;have h2:=Option.some.inj (show some g=some q from hq);omega);have X7:=ae (ak (X6.out.trans (Ext.alloc w6 (.cells #[.int .i64 x,.int .i64 y] 43))) hg (fun q hq=>by have:=(HA.out.lt q hq).1;omega));have hs7:w5.heap.size<=w7.heap.size:=Nat.le_trans (by simp;omega) hg.size
          clear ho hg hnear T1 T2))
      | (at_builtin
         (have T1:=HB.out
          have T2:=HOf.out.rats.dropIf hjk;refine aG rfl _ _ rfl w5.heap.size (.slice a3 n3 c3) ((srtT l k).take j++[(x,y)]) rfl T1 _ (k-j) (p1-j) _ rfl T2 (by have:=HSL.out;simp;omega) hs7 ?_;intro v4 w8 ho hg hnear;obtain ⟨a4,n4,c4,rfl,HN4⟩:=ho.var;have HD:=ae ho;have X8:=ae (ak X7.out hg (fun q hq=>by have:=(HB.out.lt q hq).1;omega))
          clear ho hg hnear T1 T2)))
     all_goals
      have HD':=ae (show OwnR w8 w5.heap.size (.slice a4 n4 c4) (srtT l (k+1)) by have:=HD.out;rwa [HSN.out] at this);have hn4:n4=k+1:=by have:=HD'.out.rats.hlen;rw [jb] at this;omega
      obtain ⟨g4,hg4,_,_,_⟩:=HD'.out.block (k:=0) (by omega);subst hg4 hn4
      go_roundg (g1-1)
      case measure=>have:=HK.out;omega
      case rel=>exact ⟨k+1,g4,c4,ae (by have:=HK.out;omega),rfl,by go_num,ae (HD'.out.mono hs15),X8⟩
  ·have hkn:k=n1:=by have:=HK.out;omega
   subst hkn;go_wp2_with fail;go_ret;exact ⟨⟨_,rfl,by unfold srtX;rw [HL.out];exact HO1.out.mono (by have:=X1.out.size;omega)⟩,X1.out.trans HX1.out⟩
end Go.Proofs.YthjjfkeacobikaaGreat
