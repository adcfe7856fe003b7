import Derived.Test.YtalmoolkhcgmmaaGreatNqAltG4
import Derived.Test.YtalmoolkhcgmmaaGreatNqAltG5
import Derived.Test.YtalmoolkhcgmmaaGreatNqAltG7
import Derived.Test.YtalmoolkhcgmmaaGreatNqAltG2
set_option linter.unusedVariables false
set_option linter.unusedSimpArgs false
namespace Go.Proofs.YtalmoolkhcgmmaaGreat
variable{w:World}{V:j9}
set_option maxHeartbeats 16000000
set_option maxRecDepth 100000
open Go.RowKit
def Ln(r b:Nat)(x0 x1 p q:Int):Bx:=(Bx.nil.upd r (#[.int .i64 x0,.int .i64 x1],46)).upd b (#[.int .i64 p,.int .i64 q],46)
theorem Lm(r b:Nat)(x0 x1 p q:Int):Ln r b x0 x1 p q b=some (#[.int .i64 p,.int .i64 q],46):=Bx.same _ _ _
theorem hI{r b:Nat}(h:r≠b)(x0 x1 p q:Int):Ln r b x0 x1 p q r=some (#[.int .i64 x0,.int .i64 x1],46):=(Bx.other _ _ h).trans (Bx.same _ _ _)
theorem K8{cb:Nat}(h:Aa w cb):
 Calls Tryz.prog 42 #[.pointer (some ⟨cb,0,none⟩)] w fun e w'=>(∃x y:Int,e=.returned (xO x y))/\Aa w' cb/\w.grownBy w' (some cb):=by
 have EP:=h.lt;obtain⟨W,hW⟩:=b8 (w.alloc (.cells #[.int .i64 0,.int .i64 0] 46));have Bh:=ae (show Aq w W cb (Bx.nil.upd w.heap.size (#[.int .i64 0,.int .i64 0],46))from hW▸(Aq.start h (dX (some cb) (Ext.refl w))).new #[.int .i64 0,.int .i64 0] 46 (iD _ _ (eY _)));have hsW:w.heap.size<W.heap.size:=by rw[hW];simp
 clear h;have BL:=ae (show Ints (W.alloc (.cells #[.int .i64 0,.int .i64 1,.int .i64 2,.int .i64 (-1),.int .i64 3,.int .i64 (-7),.int .i64 12,.int .i64 999999999,.int .i64 (-1000000000)] 3)) (some ⟨W.heap.size,0,none⟩) 9 9 [0,1,2,-1,3,-7,12,999999999,-1000000000]from Ints.lit W [0,1,2,-1,3,-7,12,999999999,-1000000000] 3 (by decide));have QV:=ae (Bh.o.ext (Ext.alloc W (.cells #[.int .i64 0,.int .i64 1,.int .i64 2,.int .i64 (-1),.int .i64 3,.int .i64 (-7),.int .i64 12,.int .i64 999999999,.int .i64 (-1000000000)] 3)));go_enter Tryz.func42,Tryz.ntmps42
 go_upto_region 1 with fail;rw[<-hW];clear hW;go_wp2_with fail;refine(eh QV.o.cur BL.o b9 (fun b off e=>by simp only[Option.some.injEq,Addr.mk.injEq,and_true]at e;omega)).mono ?_;rintro e w1 ⟨⟨k,hk,rfl⟩,hc,hg⟩;obtain⟨x,hx⟩:=b8 (([0,1,2,-1,3,-7,12,999999999,-1000000000]:j9)[k]?.getD 0);rw[<-hx];have xT:=ae (QV.o.call hc hg);have Cu:W.heap.size<w1.heap.size:=by have:=hg.size;simp at this;omega
 clear hc hg hx hk QV BL Bh;have y4:=ae (show Ints (w1.alloc (.cells #[.int .i64 1,.int .i64 1,.int .i64 2,.int .i64 3,.int .i64 7,.int .i64 1000000000,.int .i64 999999937] 3)) (some ⟨w1.heap.size,0,none⟩) 7 7 [1,1,2,3,7,1000000000,999999937]from Ints.lit w1 [1,1,2,3,7,1000000000,999999937] 3 (by decide));have U:=ae (xT.o.ext (Ext.alloc w1 (.cells #[.int .i64 1,.int .i64 1,.int .i64 2,.int .i64 3,.int .i64 7,.int .i64 1000000000,.int .i64 999999937] 3)));go_wp2_with fail;refine(eh U.o.cur y4.o b9 (fun b off e=>by simp only[Option.some.injEq,Addr.mk.injEq,and_true]at e;omega)).mono ?_;rintro e w2 ⟨⟨k2,hk,rfl⟩,hc,hg⟩;obtain⟨y,hy⟩:=b8 (([1,1,2,3,7,1000000000,999999937]:j9)[k2]?.getD 0);rw[<-hy];have zV:=ae (U.o.call hc hg);have D4:w1.heap.size<w2.heap.size:=by have:=hg.size;simp at this;omega
 clear hc hg hy hk U y4 xT;obtain⟨p,q,ok,Z⟩:∃p q ok,aL x y=((p,q),ok):=⟨_,_,_,rfl⟩;have J:=jt x y w2;rw[Z]at J;have J:=ae J;clear Z;go_wp2_with fail;refine J.o.mono ?_;rintro e I ⟨rfl,O⟩;have CY:=O.size;have K:=ae (show Aq w (I.alloc (.cells #[.int .i64 p,.int .i64 q] 46)) cb (Ln w.heap.size I.heap.size 0 0 p q)from(zV.o.ext O).new _ _ (iD _ _ (eY _)));clear O zV J;go_wp2_with fail;refine(iI K.o.cur 12 b9).mono ?_;rintro e w4 ⟨⟨once,rfl⟩,hc,hg⟩;have AB:=ae (K.o.call hc hg);have J4:I.heap.size<w4.heap.size:=by have:=hg.size;simp at this;omega
 have hne:w.heap.size≠I.heap.size:=by omega
 have hcbw:=EP;clear hc hg K;generalize I.heap.size=b3 at AB J4 hne⊢;cases once
 ·have g0:=AB.o.c0 (Lm _ _ _ _ _ _);have g1:=AB.o.c1 (Lm _ _ _ _ _ _);have r0:=AB.o.c0 (hI hne _ _ _ _);have r1:=AB.o.c1 (hI hne _ _ _ _);have rf:=AB.o.free (hI hne _ _ _ _);have G:=ae (AB.o.C7 (hI hne _ _ _ _) (.int .i64 p) (.int .i64 q) (eY _) (eY _));have z0:=G.o.c0 (Bx.same _ _ _);have z1:=G.o.c1 (Bx.same _ _ _);go_wp2_with fail;refine bodyPost_ret (v:=xO p q) (by simp[results,Tryz.results42,go_sem,z0,z1]) rfl ⟨⟨p,q,rfl⟩,G.o.cur,G.o.grown⟩
 ·have z8:=ae (show Ints (w4.alloc (.cells #[.int .i64 0,.int .i64 2,.int .i64 1000000001] 3)) (some ⟨w4.heap.size,0,none⟩) 3 3 [0,2,1000000001]from Ints.lit w4 [0,2,1000000001] 3 (by decide));have Jm:=ae (AB.o.ext (Ext.alloc w4 (.cells #[.int .i64 0,.int .i64 2,.int .i64 1000000001] 3)));have hcl4:=AB.o.cur.lt;go_wp2_with fail;refine(eh Jm.o.cur z8.o b9 (fun b off e=>by simp only[Option.some.injEq,Addr.mk.injEq,and_true]at e;omega)).mono ?_;rintro e w5 ⟨⟨k,hk,rfl⟩,hc,hg⟩;obtain⟨u,hu⟩:=b8 (([0,2,1000000001]:j9)[k]?.getD 0);rw[<-hu];have G:=ae (Jm.o.call hc hg);have hcl5:=G.o.cur.lt;clear hc hg hu hk Jm z8 AB;have GR:=ae (show Ints (w5.alloc (.cells #[.int .i64 0,.int .i64 2,.int .i64 (-1),.int .i64 1] 3)) (some ⟨w5.heap.size,0,none⟩) 4 4 [0,2,-1,1]from Ints.lit w5 [0,2,-1,1] 3 (by decide));have R:=ae (G.o.ext (Ext.alloc w5 (.cells #[.int .i64 0,.int .i64 2,.int .i64 (-1),.int .i64 1] 3)));go_wp2_with fail;refine(eh R.o.cur GR.o b9 (fun b off e=>by simp only[Option.some.injEq,Addr.mk.injEq,and_true]at e;omega)).mono ?_;rintro e w6 ⟨⟨k,hk,rfl⟩,hc,hg⟩;obtain⟨v,hv⟩:=b8 (([0,2,-1,1]:j9)[k]?.getD 0);rw[<-hv];have Bw:=ae (R.o.call hc hg);clear hc hg hv hk R GR G;have r0:=Bw.o.c0 (hI hne _ _ _ _);have r1:=Bw.o.c1 (hI hne _ _ _ _);have rf:=Bw.o.free (hI hne _ _ _ _)
  have Cb:=ae (Bw.o.C7 (hI hne _ _ _ _) (.int .i64 u) (.int .i64 v) (eY _) (eY _));have z0:=Cb.o.c0 (Bx.same _ _ _);have z1:=Cb.o.c1 (Bx.same _ _ _);go_wp2_with fail;refine bodyPost_ret (v:=xO u v) (by simp[results,Tryz.results42,go_sem,z0,z1]) rfl ⟨⟨u,v,rfl⟩,Cb.o.cur,Cb.o.grown⟩
def bD(p:Int)(V:j9):Int:=if aZ p V=true then V[V.length-1]?.getD 0 else 0
theorem oM{p:Int}(h:aZ p V=false):bD p V=0:=by unfold bD;rw[h];rfl
theorem ez{p:Int}(h:aZ p V=true):bD p V=V[V.length-1]?.getD 0:=by unfold bD;rw[if_pos h]
theorem iG{p:Int}{a:j8}{n cap:Nat}(h:Ints w a n cap V):
 Calls Tryz.prog 33 #[pair p a n cap] w fun e w'=>e=.returned (.int .i64 (bD p V))/\Ext w w':=by
 have hi:=h.alloc (.cells #[.int .i64 p,.slice a n cap] 26);have HX:=ae (Ext.alloc w (.cells #[.int .i64 p,.slice a n cap] 26));have HL:=ae h.hlen;have HI:=ae hi;have HV:=ae (ep (p:=p) hi);clear h hi;cases hv:aZ p V
 ·rw[hv]at HV;have HG:=ae (oM hv);clear hv;go_enter Tryz.func33,Tryz.ntmps33
  go_wp2_with fail;refine HV.o.mono ?_;rintro e w1 ⟨rfl,hx⟩;have X1:=ae (HX.o.trans hx);clear hx;go_wp2_with fail;go_ret;exact⟨aU HG.o.symm,X1.o⟩
 ·rw[hv]at HV;obtain⟨q,rfl,h1,h5,hlen,_,CO⟩:=aW hv;have hN:=cu q h5;obtain⟨u,rfl⟩:∃u,n=u+1:=⟨n-1,by have:=HL.o;omega⟩;have HG:=ae (show bD (q:Int) V=V[u]?.getD 0 by rw[ez hv,HL.o];rfl);have S1:u<=31:=by have:=HL.o;omega
  clear hv hlen CO hN;go_enter Tryz.func33,Tryz.ntmps33
  go_wp2_with fail;refine HV.o.mono ?_;rintro e w1 ⟨rfl,hx⟩;have c1:w1.cell? ⟨w.heap.size,1,none⟩=some (.slice a (u+1) cap):=hx.k6 e7;obtain⟨b,off,rfl,hc⟩:=(HI.o.ext hx).at (show u<u+1 by omega);have D7:((u+1:Nat):Int)-1=(u:Int):=by omega
  have X1:=ae (HX.o.trans hx);clear hx;go_wp2_with fail;go_ret;exact⟨aU HG.o.symm,X1.o⟩
theorem ko{p:Int}{a:j8}{n cap:Nat}(h:Ints w a n cap V):
 Calls Tryz.prog 19 #[pair p a n cap] w fun e w'=>e=.returned (.int .i64 (bD p V))/\Ext w w':=by
 have hi:=h.alloc (.cells #[.int .i64 p,.slice a n cap] 26);have HX:=ae (Ext.alloc w (.cells #[.int .i64 p,.slice a n cap] 26));have HL:=ae h.hlen;have HI:=ae hi;have HV:=ae (eV (p:=p) hi);clear h hi;cases hv:aZ p V
 ·rw[hv]at HV;have HG:=ae (oM hv);clear hv;go_enter Tryz.func19,Tryz.ntmps19
  go_wp2_with fail;refine HV.o.mono ?_;rintro e w1 ⟨rfl,hx⟩;have X1:=ae (HX.o.trans hx);clear hx;go_wp2_with fail;go_ret;exact⟨aU HG.o.symm,X1.o⟩
 ·rw[hv]at HV;obtain⟨q,rfl,h1,h5,hlen,_,CO⟩:=aW hv;have hN:=cu q h5;obtain⟨u,rfl⟩:∃u,n=u+1:=⟨n-1,by have:=HL.o;omega⟩;have HG:=ae (show bD (q:Int) V=V[u]?.getD 0 by rw[ez hv,HL.o];rfl);have S1:u<=31:=by have:=HL.o;omega
  clear hv hlen CO hN;go_enter Tryz.func19,Tryz.ntmps19
  go_wp2_with fail;refine HV.o.mono ?_;rintro e w1 ⟨rfl,hx⟩;have c1:w1.cell? ⟨w.heap.size,1,none⟩=some (.slice a (u+1) cap):=hx.k6 e7;obtain⟨b,off,rfl,hc⟩:=(HI.o.ext hx).at (show u<u+1 by omega);have D7:((u+1:Nat):Int)-1=(u:Int):=by omega
  have X1:=ae (HX.o.trans hx);clear hx;go_wp2_with fail;go_ret;exact⟨aU HG.o.symm,X1.o⟩
theorem VN(k:Nat)(h:k<=5)(w:World):Calls Tryz.prog 92 #[.int .i64 (k:Int)] w fun e w'=>e=.returned (.int .i64 (2^k))/\w=w':=by
 have:=tw k w
 rwa [fJ k h,kf]at this
end Go.Proofs.YtalmoolkhcgmmaaGreat
