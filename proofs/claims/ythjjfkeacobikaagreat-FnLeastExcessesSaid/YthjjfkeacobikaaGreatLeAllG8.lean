import Derived.Test.YthjjfkeacobikaaGreatLeAllG4
import Derived.Test.YthjjfkeacobikaaGreatLeAllG5
import Derived.Test.YthjjfkeacobikaaGreatLeAllG7
import Derived.Test.YthjjfkeacobikaaGreatLeAllG2
set_option linter.unusedVariables false
set_option linter.unusedSimpArgs false
namespace Go.Proofs.YthjjfkeacobikaaGreat
set_option maxRecDepth 100000
open Go.RowKit
def ratBx (r b:Nat) (x0 x1 p q:Int):Bx:=(Bx.nil.upd r (#[.int .i64 x0,.int .i64 x1],43)).upd b (#[.int .i64 p,.int .i64 q],43)
theorem ratBx5 (r b:Nat) (x0 x1 p q:Int):ratBx r b x0 x1 p q b=some (#[.int .i64 p,.int .i64 q],43):=Bx.same _ _ _
theorem gh {r b:Nat} (h:r ≠ b) (x0 x1 p q:Int):ratBx r b x0 x1 p q r=some (#[.int .i64 x0,.int .i64 x1],43):=(Bx.other _ _ h).trans (Bx.same _ _ _)
set_option maxHeartbeats 4000000 in
theorem s_l3Draw {w:World} {cb:Nat} (h:Cur w cb) :
 Calls Tryz.prog 213 #[.pointer (some ⟨cb,0,none⟩)] w fun e w'=>(∃ x y:Int,e=.returned (ratV x y))/\Cur w' cb/\w.grownBy w' (some cb):=by
 have hcl:=h.lt;obtain ⟨W,hW⟩:∃ W,W=w.alloc (.cells #[.int .i64 0,.int .i64 0] 43):=⟨_,rfl⟩;have HB0:=ae (show Bxs w W cb (Bx.nil.upd w.heap.size (#[.int .i64 0,.int .i64 0],43)) from hW ▸ (Bxs.start h (dJ (some cb) (Ext.refl w))).new #[.int .i64 0,.int .i64 0] 43 (hO _ _ (eD _)));have hsW:w.heap.size<W.heap.size:=by rw [hW];simp
 clear h;have HLA:=ae (show Ints (W.alloc (.cells #[.int .i64 0,.int .i64 1,.int .i64 2,.int .i64 (-1),.int .i64 3,.int .i64 (-7),.int .i64 12,.int .i64 999999999,.int .i64 (-1000000000)] 3)) (some ⟨W.heap.size,0,none⟩) 9 9 [0,1,2,-1,3,-7,12,999999999,-1000000000] from Ints.lit W [0,1,2,-1,3,-7,12,999999999,-1000000000] 3 (by decide));have HBA:=ae (HB0.out.ext (Ext.alloc W (.cells #[.int .i64 0,.int .i64 1,.int .i64 2,.int .i64 (-1),.int .i64 3,.int .i64 (-7),.int .i64 12,.int .i64 999999999,.int .i64 (-1000000000)] 3)));go_enter Tryz.func213,Tryz.ntmps213
 go_upto_region 1 with fail;rw [<-hW];clear hW;go_wp2_with fail;refine (dP HBA.out.cur HLA.out (by omega) (fun b off e=>by simp only [Option.some.injEq,Addr.mk.injEq,and_true] at e;omega)).mono ?_;rintro e w1 ⟨⟨k,hk,rfl⟩,hc,hg⟩;obtain ⟨x,hx⟩:∃ x,x=([0,1,2,-1,3,-7,12,999999999,-1000000000]:List Int)[k]?.getD 0:=⟨_,rfl⟩;rw [<-hx];have HB1:=ae (HBA.out.call hc hg);have hs1:W.heap.size<w1.heap.size:=by have:=hg.size;simp at this;omega
 clear hc hg hx hk HBA HLA HB0;have HLB:=ae (show Ints (w1.alloc (.cells #[.int .i64 1,.int .i64 1,.int .i64 2,.int .i64 3,.int .i64 7,.int .i64 1000000000,.int .i64 999999937] 3)) (some ⟨w1.heap.size,0,none⟩) 7 7 [1,1,2,3,7,1000000000,999999937] from Ints.lit w1 [1,1,2,3,7,1000000000,999999937] 3 (by decide));have HBB:=ae (HB1.out.ext (Ext.alloc w1 (.cells #[.int .i64 1,.int .i64 1,.int .i64 2,.int .i64 3,.int .i64 7,.int .i64 1000000000,.int .i64 999999937] 3)));go_wp2_with fail;refine (dP HBB.out.cur HLB.out (by omega) (fun b off e=>by simp only [Option.some.injEq,Addr.mk.injEq,and_true] at e;omega)).mono ?_;rintro e w2 ⟨⟨k2,hk,rfl⟩,hc,hg⟩;obtain ⟨y,hy⟩:∃ y,y=([1,1,2,3,7,1000000000,999999937]:List Int)[k2]?.getD 0:=⟨_,rfl⟩;rw [<-hy];have HB2:=ae (HBB.out.call hc hg);have hs2:w1.heap.size<w2.heap.size:=by have:=hg.size;simp at this;omega
 clear hc hg hy hk HBB HLB HB1;obtain ⟨p,q,ok,hpq⟩:∃ p q ok,aL x y=((p,q),ok):=⟨_,_,_,rfl⟩;have HRO:=iB x y w2;rw [hpq] at HRO;have HRO:=ae HRO;clear hpq;go_wp2_with fail;refine HRO.out.mono ?_;rintro e w3 ⟨rfl,hx3⟩;have hs3:=hx3.size;have HB3:=ae (show Bxs w (w3.alloc (.cells #[.int .i64 p,.int .i64 q] 43)) cb (ratBx w.heap.size w3.heap.size 0 0 p q) from (HB2.out.ext hx3).new _ _ (hO _ _ (eD _)));clear hx3 HB2 HRO;go_wp2_with fail;refine (iY HB3.out.cur 12 (by omega)).mono ?_;rintro e w4 ⟨⟨once,rfl⟩,hc,hg⟩;have HB4:=ae (HB3.out.call hc hg);have hs4:w3.heap.size<w4.heap.size:=by have:=hg.size;simp at this;omega
 have hne:w.heap.size ≠ w3.heap.size:=by omega
 have hcbw:=hcl;clear hc hg HB3;generalize w3.heap.size=b3 at HB4 hs4 hne ⊢;cases once
 ·have g0:=HB4.out.c0 (ratBx5 _ _ _ _ _ _);have g1:=HB4.out.c1 (ratBx5 _ _ _ _ _ _);have r0:=HB4.out.c0 (gh hne _ _ _ _);have r1:=HB4.out.c1 (gh hne _ _ _ _);have rf:=HB4.out.free (gh hne _ _ _ _);have HB5:=ae (HB4.out.put2 (gh hne _ _ _ _) (.int .i64 p) (.int .i64 q) (eD _) (eD _));have z0:=HB5.out.c0 (Bx.same _ _ _);have z1:=HB5.out.c1 (Bx.same _ _ _);go_wp2_with fail;refine bodyPost_ret (v:=ratV p q) (by simp [results,Tryz.results213,go_sem,z0,z1]) rfl ⟨⟨p,q,rfl⟩,HB5.out.cur,HB5.out.grown⟩
 ·have HLC:=ae (show Ints (w4.alloc (.cells #[.int .i64 0,.int .i64 2,.int .i64 1000000001] 3)) (some ⟨w4.heap.size,0,none⟩) 3 3 [0,2,1000000001] from Ints.lit w4 [0,2,1000000001] 3 (by decide));have HBC:=ae (HB4.out.ext (Ext.alloc w4 (.cells #[.int .i64 0,.int .i64 2,.int .i64 1000000001] 3)));have hcl4:=HB4.out.cur.lt;go_wp2_with fail;refine (dP HBC.out.cur HLC.out (by omega) (fun b off e=>by simp only [Option.some.injEq,Addr.mk.injEq,and_true] at e;omega)).mono ?_;rintro e w5 ⟨⟨k,hk,rfl⟩,hc,hg⟩;obtain ⟨u,hu⟩:∃ x,x=([0,2,1000000001]:List Int)[k]?.getD 0:=⟨_,rfl⟩;rw [<-hu];have HB5:=ae (HBC.out.call hc hg);have hcl5:=HB5.out.cur.lt;clear hc hg hu hk HBC HLC HB4;have HLD:=ae (show Ints (w5.alloc (.cells #[.int .i64 0,.int .i64 2,.int .i64 (-1),.int .i64 1] 3)) (some ⟨w5.heap.size,0,none⟩) 4 4 [0,2,-1,1] from Ints.lit w5 [0,2,-1,1] 3 (by decide));have HBD:=ae (HB5.out.ext (Ext.alloc w5 (.cells #[.int .i64 0,.int .i64 2,.int .i64 (-1),.int .i64 1] 3)));go_wp2_with fail;refine (dP HBD.out.cur HLD.out (by omega) (fun b off e=>by simp only [Option.some.injEq,Addr.mk.injEq,and_true] at e;omega)).mono ?_;rintro e w6 ⟨⟨k,hk,rfl⟩,hc,hg⟩;obtain ⟨v,hv⟩:∃ x,x=([0,2,-1,1]:List Int)[k]?.getD 0:=⟨_,rfl⟩;rw [<-hv];have HB6:=ae (HBD.out.call hc hg);clear hc hg hv hk HBD HLD HB5;have r0:=HB6.out.c0 (gh hne _ _ _ _);have r1:=HB6.out.c1 (gh hne _ _ _ _);have rf:=HB6.out.free (gh hne _ _ _ _)
  have HB7:=ae (HB6.out.put2 (gh hne _ _ _ _) (.int .i64 u) (.int .i64 v) (eD _) (eD _));have z0:=HB7.out.c0 (Bx.same _ _ _);have z1:=HB7.out.c1 (Bx.same _ _ _);go_wp2_with fail;refine bodyPost_ret (v:=ratV u v) (by simp [results,Tryz.results213,go_sem,z0,z1]) rfl ⟨⟨u,v,rfl⟩,HB7.out.cur,HB7.out.grown⟩
def bz (p:Int) (V:List Int):Int:=if aN p V=true then V[V.length-1]?.getD 0 else 0
theorem mW {p:Int} {V:List Int} (h:aN p V=false):bz p V=0:=by unfold bz;rw [h];rfl
theorem dZ {p:Int} {V:List Int} (h:aN p V=true):bz p V=V[V.length-1]?.getD 0:=by unfold bz;rw [if_pos h]
set_option maxHeartbeats 1000000 in
theorem fH {w:World} {p:Int} {a:Option Addr} {n cap:Nat} {V:List Int} (h:Ints w a n cap V) :
 Calls Tryz.prog 87 #[pair p a n cap] w fun e w'=>e=.returned (.int .i64 (bz p V))/\Ext w w':=by
 have hi:=h.alloc (.cells #[.int .i64 p,.slice a n cap] 29);have HX:=ae (Ext.alloc w (.cells #[.int .i64 p,.slice a n cap] 29));have HL:=ae h.hlen;have HI:=ae hi;have HV:=ae (dA (p:=p) hi);clear h hi;cases hv:aN p V
 ·rw [hv] at HV;have HG:=ae (mW hv);clear hv;go_enter Tryz.func87,Tryz.ntmps87
  go_wp2_with fail;refine HV.out.mono ?_;rintro e w1 ⟨rfl,hx⟩;have X1:=ae (HX.out.trans hx);clear hx;go_wp2_with fail;go_ret;exact ⟨aQ HG.out.symm,X1.out⟩
 ·rw [hv] at HV;obtain ⟨q,rfl,h1,h5,hlen,_,hbd⟩:=bd hv;have hN:=cX q h5;obtain ⟨u,rfl⟩:∃ u,n=u+1:=⟨n-1,by have:=HL.out;omega⟩;have HG:=ae (show bz (q:Int) V=V[u]?.getD 0 by rw [dZ hv,HL.out];rfl);have hu32:u<=31:=by have:=HL.out;omega
  clear hv hlen hbd hN;go_enter Tryz.func87,Tryz.ntmps87
  go_wp2_with fail;refine HV.out.mono ?_;rintro e w1 ⟨rfl,hx⟩;have c1:w1.cell? ⟨w.heap.size,1,none⟩=some (.slice a (u+1) cap):=hx.cellSome (by simp);obtain ⟨b,off,rfl,hc⟩:=(HI.out.ext hx).at (show u<u+1 by omega);have hlen1:((u+1:Nat):Int)-1=(u:Int):=by omega
  have X1:=ae (HX.out.trans hx);clear hx;go_wp2_with fail;go_ret;exact ⟨aQ HG.out.symm,X1.out⟩
set_option maxHeartbeats 1000000 in
theorem ow {w:World} {p:Int} {a:Option Addr} {n cap:Nat} {V:List Int} (h:Ints w a n cap V) :
 Calls Tryz.prog 131 #[pair p a n cap] w fun e w'=>e=.returned (.int .i64 (bz p V))/\Ext w w':=by
 have hi:=h.alloc (.cells #[.int .i64 p,.slice a n cap] 29);have HX:=ae (Ext.alloc w (.cells #[.int .i64 p,.slice a n cap] 29));have HL:=ae h.hlen;have HI:=ae hi;have HV:=ae (gq (p:=p) hi);clear h hi;cases hv:aN p V
 ·rw [hv] at HV;have HG:=ae (mW hv);clear hv;go_enter Tryz.func131,Tryz.ntmps131
  go_wp2_with fail;refine HV.out.mono ?_;rintro e w1 ⟨rfl,hx⟩;have X1:=ae (HX.out.trans hx);clear hx;go_wp2_with fail;go_ret;exact ⟨aQ HG.out.symm,X1.out⟩
 ·rw [hv] at HV;obtain ⟨q,rfl,h1,h5,hlen,_,hbd⟩:=bd hv;have hN:=cX q h5;obtain ⟨u,rfl⟩:∃ u,n=u+1:=⟨n-1,by have:=HL.out;omega⟩;have HG:=ae (show bz (q:Int) V=V[u]?.getD 0 by rw [dZ hv,HL.out];rfl);have hu32:u<=31:=by have:=HL.out;omega
  clear hv hlen hbd hN;go_enter Tryz.func131,Tryz.ntmps131
  go_wp2_with fail;refine HV.out.mono ?_;rintro e w1 ⟨rfl,hx⟩;have c1:w1.cell? ⟨w.heap.size,1,none⟩=some (.slice a (u+1) cap):=hx.cellSome (by simp);obtain ⟨b,off,rfl,hc⟩:=(HI.out.ext hx).at (show u<u+1 by omega);have hlen1:((u+1:Nat):Int)-1=(u:Int):=by omega
  have X1:=ae (HX.out.trans hx);clear hx;go_wp2_with fail;go_ret;exact ⟨aQ HG.out.symm,X1.out⟩
theorem s_l2B (k:Nat) (h:k<=5) (w:World):Calls Tryz.prog 78 #[.int .i64 (k:Int)] w fun e w'=>e=.returned (.int .i64 (2 ^ k))/\w=w':=by
 have:=qC k w
 rwa [iF k h,jn] at this
end Go.Proofs.YthjjfkeacobikaaGreat
