import Derived.Test.YthjjfkeacobikaaGreatPuAllG24
import Derived.Test.YthjjfkeacobikaaGreatPuAllG43
import Derived.Test.YthjjfkeacobikaaGreatPuAllG18
import Derived.Test.YthjjfkeacobikaaGreatPuAllG12
import Derived.Test.YthjjfkeacobikaaGreatPuAllG15
set_option linter.unusedVariables false
set_option linter.unusedSimpArgs false
namespace Go.Proofs.YthjjfkeacobikaaGreat
set_option maxRecDepth 100000
open Go.RowKit
set_option maxHeartbeats 4000000 in
theorem oG {w:World} {a:Option Addr} {n cap:Nat} {Y:List (Int × Int)} (h:Rats w a n cap Y) (hn:n<=100000) (hY:∀ k:Nat,-9223372036854775807<=(Y[k]?.getD (0,0)).1/\(Y[k]?.getD (0,0)).1<=9223372036854775807) :
 Calls Tryz.prog 135 #[.slice a n cap] w fun e w'=>(∃ v,e=.returned v/\OwnR w' w.heap.size v (Y.map negR))/\Ext w w':=by
 have HL:=ae h.hlen;have hc1:=h.hcap;have hc2:=h.hmax;have HI:=ae h;have HB:=ae hY;have HO:=ae (OwnR.made w w.heap.size (Nat.le_refl _));clear h hY;go_enter Tryz.func135,Tryz.ntmps135
 go_wp2_with fail
 go_loopg [3,9] n (fun gk oo ii wr=>∃ (k:Nat) (a1:Option Addr) (n1 p1:Nat),Hid (gk+k=n)/\ii=.int .i64 (k:Int)/\oo=.slice a1 n1 p1/\Hid (OwnR wr w.heap.size (.slice a1 n1 p1) ((Y.take k).map negR))/\Hid (Ext w wr))
 case atStart=>exact ⟨0,_,_,_,ae (by omega),rfl,rfl,HO,ae (Ext.alloc _ _)⟩
 case round =>
  obtain ⟨g1,h_g1⟩:∃ x,x=gk:=⟨_,rfl⟩;subst h_g1;obtain ⟨wr1,h_wr1⟩:∃ x,x=wr:=⟨_,rfl⟩;subst h_wr1;obtain ⟨k,a1,n1,p1,HK,rfl,rfl,HO1,HX⟩:=hrel;have hsz:=HX.out.size;by_cases hlt:k<n
  ·obtain ⟨eb,eoff,x,y,hea,hxy,he0,he1⟩:=(HI.out.ext HX.out).at hlt;subst hea;have hb:=HB.out k;rw [hxy] at hb
   have HSN:=ae (show (Y.take k).map negR++[(-x,y)]=(Y.take (k+1)).map negR by
    have h1:k<Y.length:=by rw [HL.out];exact hlt
    rw [List.take_succ_eq_append_getElem h1,List.map_append,List.map_singleton];rw [List.getElem?_eq_getElem h1,Option.getD_some] at hxy
    rw [hxy];rfl)
   have hk0:(0:Int)<=(k:Int):=by omega
   have hk1:(k:Int)<(n:Int):=by omega
   have HTL:=ae (show ((Y.take k).map negR).length=k by rw [List.length_map,List.length_take,HL.out];omega);have HM:=ae (fun w'=>dM x y w' hb.1 hb.2);clear hxy hb;go_wp2_with fail;refine (HM.out _).mono ?_;rintro e w3 ⟨rfl,hx⟩;have X3:=ae ((HX.out.trans (Ext.alloc _ _)).trans hx);have HO3:=ae ((HO1.out.ext (Ext.alloc _ _)).ext hx);have hs3:=X3.out.size;clear hx
   go_wp2_with (first
    | (at_builtin;refine aJ rfl _ _ rfl w.heap.size (.slice a1 n1 p1) _ rfl (HO3.out.ext (Ext.alloc _ _)) _ 1 _ [(-x,y)] rfl (Rats.one' _ _ _ _ _ (by simp)) (by rw [HTL.out];omega) (by simp;omega) ?_;intro v5 w5 ho hg hnear;have X5:=ae (aq (X3.out.trans (Ext.alloc _ _)) hg (fun j hj=>(HO3.out.lt j hj).1));obtain ⟨a5,n5,p5,rfl,HN5⟩:=ho.var;have HO5:=ae ho;clear ho hg hnear))
   go_roundg (g1-1)
   case measure=>have:=HK.out;omega
   case rel=>exact ⟨k+1,a5,n5,p5,ae (by have:=HK.out;omega),by go_num,rfl,ae (by rw [<-HSN.out];exact HO5.out),X5⟩
  ·have HT:=ae (show Y.take k=Y from List.take_of_length_le (by rw [HL.out];omega));rw [HT.out] at HO1;go_wp2_with fail;go_ret;exact ⟨⟨_,rfl,HO1.out⟩,HX.out⟩
end Go.Proofs.YthjjfkeacobikaaGreat
