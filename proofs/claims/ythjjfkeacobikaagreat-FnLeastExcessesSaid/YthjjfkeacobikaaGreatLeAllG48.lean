import Derived.Test.YthjjfkeacobikaaGreatLeAllG8
import Derived.Test.YthjjfkeacobikaaGreatLeAllG9
import Derived.Test.YthjjfkeacobikaaGreatLeAllG12
import Derived.Deep.Cut
set_option linter.unusedVariables false
set_option linter.unusedSimpArgs false
namespace Go.Proofs.YthjjfkeacobikaaGreat
set_option maxRecDepth 100000
open Go.RowKit
def payBx (r:Nat) (x:Int) (a:Option Addr) (n c:Nat):Bx:=Bx.nil.upd r (#[.int .i64 x,.slice a n c],29)
theorem OwnR.calls {w w':World} {cb base:Nat} {v:Value} {l:List (Int × Int)} (h:OwnR w base v l) (hg:w.grownBy w' (some cb)) (hb:cb<base):OwnR w' base v l :=
 h.keep fun k hk=>dI hg (h.lt k hk).2 (by have:=(h.lt k hk).1;omega)
theorem iT (r:Nat) (x:Int) (a:Option Addr) (n c:Nat):payBx r x a n c r=some (#[.int .i64 x,.slice a n c],29):=Bx.same _ _ _
theorem toQ {r k:Nat} (h:k ≠ r) (x:Int) (a:Option Addr) (n c:Nat):payBx r x a n c k=none:=(Bx.other _ _ h).trans rfl
set_option maxHeartbeats 8000000 in
theorem pV {w:World} {cb:Nat} (h:Cur w cb) {x:Int} {a:Option Addr} {n cap:Nat} {V:List Int} (hi:Ints w a n cap V) :
 Calls Tryz.prog 212 #[.pointer (some ⟨cb,0,none⟩),pair x a n cap] w fun e w'=>(∃ (b:Option Addr) (m c:Nat) (L:List (Int × Int)),e=.returned (.slice b m c)/\OwnR w' w.heap.size (.slice b m c) L/\m<=5)/\Cur w' cb/\w.grownBy w' (some cb):=by
 have hcl:=h.lt;obtain ⟨W,hW⟩:∃ W,W=(w.alloc (.cells #[.int .i64 x,.slice a n cap] 29)).alloc (.cells #[] 43):=⟨_,rfl⟩;have hx0:Ext w W:=by rw [hW];exact (Ext.alloc _ _).trans (Ext.alloc _ _)
 have HB0:=ae (show Bxs w W cb (payBx w.heap.size x a n cap) from hW ▸ (((Bxs.start h (World.grownBy.refl _ _)).new _ _ (hO _ _ (gl _ _ _))).ext (Ext.alloc _ _)));have HO0:=ae (show OwnR W (w.heap.size+1) (.slice (some ⟨w.heap.size+1,0,none⟩) 0 0) [] from hW ▸ OwnR.madeE _ _ _ (by simp) (by simp));have HG:=ae (fH (p:=x) (hi.ext hx0));have hs0:w.heap.size+2<=W.heap.size:=by rw [hW];simp
 have k0:=HB0.out.c0 (iT _ _ _ _ _);have k1:=HB0.out.c1 (iT _ _ _ _ _);clear h hi hx0;go_enter Tryz.func212,Tryz.ntmps212
 go_wp2_with fail;rw [<-hW];clear hW;go_wp2_with fail;refine HG.out.mono ?_;rintro e w1 ⟨rfl,hx⟩;obtain ⟨r0,hr0⟩:∃ r,r=bz x V:=⟨_,rfl⟩;rw [<-hr0];have HB1:=ae (HB0.out.ext hx);have HO1:=ae (HO0.out.ext hx);have hs1:=Nat.le_trans hs0 hx.size;clear hr0 hx HG HB0 HO0 k0 k1 hs0;go_wp2_with fail
 go_loopg [5,6,7] 5 (fun gk oo rr kk wr=>∃ (k:Nat) (a1:Option Addr) (n1 c1:Nat) (L:List (Int × Int)) (r:Int),Hid (gk+k=5)/\oo=.slice a1 n1 c1/\rr=.int .i64 r/\kk=.int .i64 (k:Int)/\Hid (w.heap.size+2<=wr.heap.size)/\Hid (Bxs w wr cb (payBx w.heap.size x a n cap))/\Hid (OwnR wr (w.heap.size+1) (.slice a1 n1 c1) L)/\Hid (L.length=k))
 case atStart=>exact ⟨0,_,_,_,[],_,ae (by omega),rfl,rfl,rfl,ae hs1,HB1,HO1,ae rfl⟩
 case round =>
  obtain ⟨g1,h_g1⟩:∃ x,x=gk:=⟨_,rfl⟩;subst h_g1;obtain ⟨wr,h_wr⟩:∃ x,x=wr:=⟨_,rfl⟩;subst h_wr;obtain ⟨k,a1,n1,c1,L,r,HK,rfl,rfl,rfl,HZ,HB,HO,HLN⟩:=hrel;have k0:=HB.out.c0 (iT _ _ _ _ _);by_cases hlt:(k:Int)<x
  ·by_cases h5:k<5
   ·have hli:Ints (wr.alloc (.cells #[.int .i64 0,.int .i64 1,.int .i64 2,.int .i64 3,.int .i64 (-1),.int .i64 5] 3)) (some ⟨wr.heap.size,0,none⟩) 6 6 [0,1,2,3,-1,5]:=Ints.lit wr [0,1,2,3,-1,5] 3 (by decide);have HA:=ae (dP (HB.out.ext (Ext.alloc wr _)).cur hli (by omega) (fun b off e=>by simp only [Option.some.injEq,Addr.mk.injEq,and_true] at e;have h1:=HB.out.cur.lt;omega));have HBA:=ae (HB.out.ext (Ext.alloc wr (.cells #[.int .i64 0,.int .i64 1,.int .i64 2,.int .i64 3,.int .i64 (-1),.int .i64 5] 3)));have HOA:=ae (HO.out.ext (Ext.alloc wr (.cells #[.int .i64 0,.int .i64 1,.int .i64 2,.int .i64 3,.int .i64 (-1),.int .i64 5] 3)));clear hli;go_wp2_with fail;refine HA.out.mono ?_;rintro e w3 ⟨⟨q,hq,rfl⟩,hc,hg⟩;obtain ⟨y,hy⟩:∃ y,y=([0,1,2,3,-1,5]:List Int)[q]?.getD 0:=⟨_,rfl⟩;rw [<-hy];have HB3:=ae (HBA.out.call hc hg);have HO3:=ae (HOA.out.calls hg (by omega));have hs3:w.heap.size+2<=w3.heap.size:=Nat.le_trans (Nat.le_trans HZ.out (by simp)) hg.size;clear hy hc hg HA HBA HOA k0;have k0:=HB3.out.c0 (iT _ _ _ _ _)
    go_upto_if 29 with fail
    go_cut [8] (fun v wx=>(∃ u:Int,v=.int .i64 u)/\Hid (w3=wx))
    case first =>
     generalize ((k:Int) == wrap64 (x-1))=bb;cases bb with
     | true =>
       go_wp2_with fail;go_meet;exact ⟨⟨_,rfl⟩,rfl⟩
     | false =>
       go_wp2_with fail;go_meet;exact ⟨⟨_,rfl⟩,rfl⟩
    obtain ⟨⟨u,rfl⟩,HW⟩:=hcut;have hw:=HW.out;subst hw;clear k0;go_wp2_with fail;refine (bJ u w3).mono ?_;rintro e w4 ⟨rfl,hx⟩;have HB4:=ae (HB3.out.ext hx);have HO4:=ae (HO3.out.ext hx);have hs4:w.heap.size+2<=w4.heap.size:=Nat.le_trans hs3 hx.size;clear hx
    go_wp2_with (first
     | (at_builtin
        have T1:=HO4.out.ext (Ext.alloc w4 (.cells #[.int .i64 u,.int .i64 1] 43));refine aG rfl _ _ rfl (w.heap.size+1) (.slice a1 n1 c1) _ rfl T1 _ 1 _ [(u,1)] rfl (Rats.one' _ _ _ _ _ (by simp)) (by have:=HLN.out;omega) (by simp;omega) ?_;intro v5 w5 ho hg hnear;obtain ⟨a5,n5,c5,rfl,HN5⟩:=ho.var;have HO5:=ae ho;have hs5:w.heap.size+2<=w5.heap.size:=Nat.le_trans (by simp;omega) hg.size;have HB5:=ae ((HB4.out.ext (Ext.alloc w4 (.cells #[.int .i64 u,.int .i64 1] 43))).grew hg (fun j hj=>⟨by have:=(T1.lt j hj).1;omega,by have:=(T1.lt j hj).1;omega,toQ (by have:=(T1.lt j hj).1;omega) _ _ _ _⟩))
        clear ho hg hnear T1))
    go_roundg (g1-1)
    case measure=>have:=HK.out;omega
    case rel=>exact ⟨k+1,a5,n5,c5,_,_,ae (by have:=HK.out;omega),rfl,rfl,by go_num,ae hs5,HB5,HO5,ae (by rw [List.length_append,HLN.out];rfl)⟩
   ·go_wp2_with fail;refine bodyPost_ret (v:=.slice a1 n1 c1) (by simp [results,Tryz.results212,go_sem]) rfl ⟨⟨a1,n1,c1,L,rfl,HO.out.mono (by omega),by have h1:=HO.out.rats.hlen;have h2:=HLN.out;have h3:=HK.out;omega⟩,HB.out.cur,HB.out.grown⟩
  ·go_wp2_with fail;refine bodyPost_ret (v:=.slice a1 n1 c1) (by simp [results,Tryz.results212,go_sem]) rfl ⟨⟨a1,n1,c1,rfl,⟨L,HO.out.mono (by omega)⟩,by have h1:=HO.out.rats.hlen;have h2:=HLN.out;have h3:=HK.out;omega⟩,HB.out.cur,HB.out.grown⟩
theorem OwnR.put2 {w:World} {base b:Nat} {v:Value} {l:List (Int × Int)} (ho:OwnR w base v l) (hb:b<base) (v0 v1:Value):OwnR ((w.setCell ⟨b,0,none⟩ v0).setCell ⟨b,1,none⟩ v1) base v l :=
 ho.keep fun k hk=>by
  have h1:=(ho.lt k hk).1;exact (heap_setCell_other _ _ _ _ (by show k ≠ b;omega)).trans (heap_setCell_other _ _ _ _ (by show k ≠ b;omega))
structure AS (w wr:World) (cb b5 base:Nat) (x:Int) (b:Option Addr) (m c:Nat) (V:List Int):Prop where
 box:∃ f,Bxs w wr cb f/\f b5=some (#[.int .i64 x,.slice b m c],29)/\f w.heap.size=some (#[.int .i64 0,.slice none 0 0],29)/\∀ k,b5<k->f k=none
 own:OwnI wr base (.slice b m c) V
section
variable {w wr w':World} {cb b5 base:Nat} {x:Int} {b:Option Addr} {m c:Nat} {V:List Int}
theorem AS.call (h:AS w wr cb b5 base x b m c V) (hb:cb<base) (hc:Cur w' cb) (hg:wr.grownBy w' (some cb)):AS w w' cb b5 base x b m c V :=
 let ⟨f,h1,h2⟩:=h.box;⟨⟨f,h1.call hc hg,h2⟩,h.own.calls hg hb⟩
theorem AS.ext (h:AS w wr cb b5 base x b m c V) (hx:Ext wr w'):AS w w' cb b5 base x b m c V :=
 let ⟨f,h1,h2⟩:=h.box;⟨⟨f,h1.ext hx,h2⟩,h.own.ext hx⟩
theorem AS.cur (h:AS w wr cb b5 base x b m c V):Cur wr cb:=let ⟨_,h1,_⟩:=h.box;h1.cur
theorem AS.c0 (h:AS w wr cb b5 base x b m c V):wr.cell? ⟨b5,0,none⟩=some (.int .i64 x):=let ⟨_,h1,h2,_⟩:=h.box;h1.c0 h2
theorem AS.c1 (h:AS w wr cb b5 base x b m c V):wr.cell? ⟨b5,1,none⟩=some (.slice b m c):=let ⟨_,h1,h2,_⟩:=h.box;h1.c1 h2
theorem AS.f5 (h:AS w wr cb b5 base x b m c V) (i:Nat):wr.frozen? ⟨b5,i,none⟩=false:=let ⟨_,h1,h2,_⟩:=h.box;h1.free h2 i
theorem AS.r0 (h:AS w wr cb b5 base x b m c V):wr.cell? ⟨w.heap.size,0,none⟩=some (.int .i64 0):=let ⟨_,h1,_,h2,_⟩:=h.box;h1.c0 h2
theorem AS.r1 (h:AS w wr cb b5 base x b m c V):wr.cell? ⟨w.heap.size,1,none⟩=some (.slice none 0 0):=let ⟨_,h1,_,h2,_⟩:=h.box;h1.c1 h2
theorem AS.rf (h:AS w wr cb b5 base x b m c V) (i:Nat):wr.frozen? ⟨w.heap.size,i,none⟩=false:=let ⟨_,h1,_,h2,_⟩:=h.box;h1.free h2 i
theorem AS.lt (h:AS w wr cb b5 base x b m c V):b5<wr.heap.size:=let ⟨_,h1,h2,_⟩:=h.box;h1.lt h2
theorem AS.again (h:AS w wr cb b5 base x b m c V) {x':Int} {b':Option Addr} {m' c':Nat} {V':List Int} {B:Nat} (ho:OwnI wr B (.slice b' m' c') V') (hB:b5<B) (hb:base<=B) (h0:w.heap.size<b5):AS w ((wr.setCell ⟨b5,0,none⟩ (.int .i64 x')).setCell ⟨b5,1,none⟩ (.slice b' m' c')) cb b5 base x' b' m' c' V' :=
 let ⟨f,h1,h2,h3,h4⟩:=h.box
 ⟨⟨_,h1.put2 h2 (.int .i64 x') (.slice b' m' c') (eD _) (gl _ _ _),Bx.same _ _ _,(Bx.other _ _ (by omega)).trans h3,fun k hk=>(Bx.other _ _ (by omega)).trans (h4 k hk)⟩,(ho.put2 hB _ _).mono hb⟩
theorem AS.rat (h:AS w wr cb b5 base x b m c V) {g B:Nat} {n cap:Nat} {L:List (Int × Int)} (ho:OwnR wr B (.slice (some ⟨g,0,none⟩) n cap) L) (hB:b5<B) (hc:cb<B) (h0:w.heap.size<b5) (hob:∀ k,(Value.slice b m c).ownBlock=some k->k<B) (hn:0<n) (u v:Int):AS w ((wr.setCell ⟨g,0,none⟩ (.int .i64 u)).setCell ⟨g,1,none⟩ (.int .i64 v)) cb b5 base x b m c V:=by
 obtain ⟨f,h1,h2,h3,h4⟩:=h.box;have hg:=(ho.lt g rfl).1;obtain ⟨b_,off,y0,y1,he,_,hc0,hc1⟩:=ho.rats.at hn;simp only [Option.some.injEq,Addr.mk.injEq,and_true] at he;obtain ⟨rfl,rfl⟩:=he;simp only [Nat.zero_mul,Nat.zero_add] at hc0 hc1;have s1:=h1.putr (b:=g) (k:=0) (by omega) (by omega) (h4 g (by omega)) hc0 (eD _) (.int .i64 u);have hc1':(wr.setCell ⟨g,0,none⟩ (.int .i64 u)).cell? ⟨g,1,none⟩=some (.int .i64 y1):=by rw [World.cell?_setCell_other _ _ _ _ (by simp)];exact hc1
 have s2:=s1.putr (b:=g) (k:=1) (by omega) (by omega) (h4 g (by omega)) hc1' (eD _) (.int .i64 v);refine ⟨⟨f,s2,h2,h3,h4⟩,h.own.keep fun k hk=>?_⟩;have:=hob k hk;exact (heap_setCell_other _ _ _ _ (by show k ≠ g;omega)).trans (heap_setCell_other _ _ _ _ (by show k ≠ g;omega))
end
set_option maxHeartbeats 8000000 in
theorem tE {w:World} {a:Option Addr} {n cap:Nat} (h:eF w a n cap) (hn:n<=1048576) :
 Calls Tryz.prog 146 #[.slice a n cap] w fun e w'=>(∃ (x:Int) (b:Option Addr) (m c:Nat) (V:List Int) (pb:Option Addr) (pm pc:Nat) (X:List (Int × Int)),e=.returned (.tuple #[.agg #[.int .i64 x,.slice b m c],.slice pb pm pc])/\OwnI w' w.heap.size (.slice b m c) V/\OwnR w' w.heap.size (.slice pb pm pc) X/\m<=17)/\Ext w w':=by
 obtain ⟨W,hW⟩:∃ W,W=w.alloc (.cells #[.int .i64 0,.slice none 0 0] 29):=⟨_,rfl⟩;have HWS:=ae (show W.heap.size=w.heap.size+1 by rw [hW];simp);have hX:Ext w W:=by rw [hW];exact Ext.alloc _ _
 have HR2:=ae (show W.heap[w.heap.size]?=some (.cells #[.int .i64 0,.slice none 0 0] 29 (0,0)) by rw [hW];exact aj _ _ _ rfl);have HX:=ae hX;have HN:=ae (s_l1New (h.ext hX) hn);clear h hX;go_enter Tryz.func146,Tryz.ntmps146
 go_wp2_with fail;rw [<-hW];refine HN.out.mono ?_;rintro e w1 ⟨⟨cb,rfl,hcb,hc⟩,hx⟩;have hws:=HWS.out;have hs1:=hx.size;have hcl:=hc.lt;have HB1:=ae ((Bxs.start hc (dJ (some cb) (HX.out.trans hx))).add w.heap.size _ _ ((hx.block _ (by omega)).trans HR2.out) (by omega) (by omega) (hO _ _ (gl _ _ _)));clear hc hx HWS HR2 hW HN;go_wp2_with fail;refine (po HB1.out.cur 4 (by omega) (by omega)).mono ?_;rintro e w2 ⟨⟨p,vb,V,rfl,hD⟩,hc,hg⟩;have hcn:=cX p (by have:=hD.hi;omega);have hlen:=hD.len;have hcn4:cN p<=16:=by
  have:∀ k:Fin 5,cN k.val<=16:=by decide
  exact this ⟨p,by have:=hD.hi;omega⟩
 obtain ⟨N,hN⟩:∃ N,N=cN p:=⟨_,rfl⟩;rw [<-hN];rw [<-hN] at hcn hlen hcn4;have HN16:=ae hcn4;clear hcn4;have hs2:=hg.size;obtain ⟨w3,hw3⟩:∃ E,E=w2.alloc (.cells #[.int .i64 (p:Int),.slice (some ⟨vb,0,none⟩) N N] 29):=⟨_,rfl⟩;have HB2:=(show Bxs w w3 cb (lA w.heap.size w2.heap.size (p:Int) (some ⟨vb,0,none⟩) N N) from hw3 ▸ (HB1.out.call hc hg).new _ _ (hO _ _ (gl _ _ _)))
 have HA3:=ae (show AS w w3 cb w2.heap.size w1.heap.size (p:Int) (some ⟨vb,0,none⟩) N N V from
  ⟨⟨_,HB2,mateBx5 _ _ _ _ _ _,mateBx4 (by omega) _ _ _ _,fun k hk=>mateBx0 (by omega) (by omega) _ _ _ _⟩,((hD.row.own hD.new hlen (by omega)).ext (Ext.alloc _ _):OwnI (w2.alloc _) _ _ _) |> fun h=>hw3 ▸ h⟩)
 clear hc hg hD HB1 HB2 hN;go_upto_region 3 with fail;rw [<-hw3];clear hw3;generalize w2.heap.size=b5 at HA3 hs2 ⊢;obtain ⟨pI,hpI⟩:∃ y:Int,y=(p:Int):=⟨_,rfl⟩;rw [<-hpI] at HA3 ⊢;clear hpI;go_wp2_with fail;refine (iY HA3.out.cur 16 (by omega)).mono ?_;rintro e w4 ⟨⟨o,rfl⟩,hc,hg⟩;have HA4:=ae (HA3.out.call (by omega) hc hg);clear hc hg HA3
 go_upto_if 12 with fail
 go_cut [4] (fun v wx=>v=.pointer (some ⟨cb,0,none⟩)/\∃ (x:Int) (b:Option Addr) (m c:Nat) (V:List Int),Hid (AS w wx cb b5 w1.heap.size x b m c V)/\Hid (m<=17))
 case first =>
  cases o with
  | false =>
    go_wp2_with fail;go_meet;exact ⟨rfl,_,_,_,_,_,HA4,ae (by have:=HN16.out;omega)⟩
  | true =>
    go_wp2_with fail;refine (s_l8Bent HA4.out.cur).mono ?_;rintro e w5 ⟨⟨x,b,m,c,V',rfl,ho,hm⟩,hc,hg⟩;have HA5:=ae (HA4.out.call (by omega) hc hg);have hlt4:=HA4.out.lt;have hs5:=hg.size;have q0:=HA5.out.c0;have q1:=HA5.out.c1;have qf:=HA5.out.f5;have HA6:=ae (HA5.out.again (x':=x) ho hlt4 (by omega) (by omega));clear ho hc hg;go_wp2_with fail;go_meet;exact ⟨rfl,_,_,_,_,_,HA6,ae hm⟩
 obtain ⟨rfl,x,b,m,c,V,HA,HM17⟩:=hcut;clear HA4;have q0:=HA.out.c0;have q1:=HA.out.c1;have hwc:=HA.out.lt;go_wp2_with fail;refine (pV (x:=x) HA.out.cur HA.out.own.ints).mono ?_;rintro e w5 ⟨⟨pb,pm,pc,X,rfl,hR,hpm⟩,hc,hg⟩;have HOB:=ae (fun k hk=>(HA.out.own.lt k hk).2);have HR5:=ae hR;have HA5:=ae (HA.out.call (by omega) hc hg);have hr1:=hR.rats.hcap;have hr2:=hR.rats.hmax;have hs5:=hg.size;clear hR hc hg q0 q1 HA;generalize wc.heap.size=B at HR5 HOB hwc hs5 ⊢;go_upto_region 6 with fail
 go_cut [24] (fun v wx=>∃ o:Bool,v=.bool o/\Hid (o=true->0<pm)/\Hid (AS w wx cb b5 w1.heap.size x b m c V)/\Hid (OwnR wx B (.slice pb pm pc) X)/\Hid (B<=wx.heap.size))
 case first =>
  by_cases h0:0<pm
  ·go_wp2_with fail;refine (iY HA5.out.cur 10 (by omega)).mono ?_;rintro e w6 ⟨⟨o,rfl⟩,hc,hg⟩;have HA6:=ae (HA5.out.call (by omega) hc hg);have HR6:=ae (HR5.out.calls hg (by omega));have hs6:=Nat.le_trans hs5 hg.size;clear hc hg;go_wp2_with fail;go_meet;exact ⟨o,rfl,ae (fun _=>h0),HA6,HR6,ae hs6⟩
  ·go_wp2_with fail;go_meet;exact ⟨false,rfl,ae (fun h=>by cases h),HA5,HR5,ae hs5⟩
 obtain ⟨o,rfl,HPM,HA6,HR6,HS6⟩:=hcut;clear HA5 HR5 hs5
 go_upto_if 24 with fail
 go_cut [6] (fun v wx=>∃ (pb:Option Addr) (pm pc:Nat) (X:List (Int × Int)),v=.slice pb pm pc/\Hid (AS w wx cb b5 w1.heap.size x b m c V)/\Hid (OwnR wx B (.slice pb pm pc) X))
 case first =>
  cases o with
  | false =>
    go_wp2_with fail;go_meet;exact ⟨_,_,_,_,rfl,HA6,HR6⟩
  | true =>
    have h0:=HPM.out rfl;obtain ⟨g,rfl,hgB,_,_⟩:=HR6.out.block h0;go_wp2_with fail;refine (s_l3Draw HA6.out.cur).mono ?_;rintro e w7 ⟨⟨u,v,rfl⟩,hc,hg⟩;have HA7:=ae (HA6.out.call (by omega) hc hg);have HR7:=ae (HR6.out.calls hg (by omega));obtain ⟨_,_,hgf,_⟩:∃ _:True,True/\(∀ j,w7.frozen? ⟨g,j,none⟩=false)/\True:=⟨trivial,trivial,by obtain ⟨g',e',_,hf,_⟩:=HR7.out.block h0;simp only [Option.some.injEq,Addr.mk.injEq,and_true] at e';subst e';exact hf,trivial⟩;obtain ⟨b_,off,y0,y1,he,_,hc0,hc1⟩:=HR7.out.rats.at h0;simp only [Option.some.injEq,Addr.mk.injEq,and_true] at he;obtain ⟨rfl,rfl⟩:=he;simp only [Nat.zero_mul,Nat.zero_add] at hc0 hc1;have HA8:=ae (HA7.out.rat HR7.out (by omega) (by omega) (by omega) HOB.out h0 u v);have hr8:=HR7.out.set (k:=0) (by rw [HR7.out.rats.hlen];exact h0) u v;simp only [Nat.zero_mul,Nat.zero_add] at hr8;have HR8:=ae hr8;clear hc hg hr8;go_wp2_with fail;go_meet;exact ⟨_,_,_,_,rfl,HA8,HR8⟩
 obtain ⟨pb,pm,pc,X,rfl,HA,HR⟩:=hcut;clear HA6 HR6 HPM HS6 HOB;go_wp2_with fail;refine (iY HA.out.cur 3 (by omega)).mono ?_;rintro e w8 ⟨⟨o,rfl⟩,hc,hg⟩;have HA8:=ae (HA.out.call (by omega) hc hg);have HR8:=ae (HR.out.calls hg (by omega));clear hc hg HA HR
 go_upto_if 30 with fail
 go_cut [6] (fun v wx=>∃ (pb:Option Addr) (pm pc:Nat) (X:List (Int × Int)),v=.slice pb pm pc/\Hid (AS w wx cb b5 w1.heap.size x b m c V)/\Hid (OwnR wx w1.heap.size (.slice pb pm pc) X))
 case first =>
  cases o with
  | false =>
    go_wp2_with fail;go_meet;exact ⟨_,_,_,_,rfl,HA8,ae (HR8.out.mono (by omega))⟩
  | true =>
    have q0:=HA8.out.c0;have q1:=HA8.out.c1;have hl8:=HA8.out.lt;go_wp2_with fail;refine (mE (x:=x) HA8.out.own.ints).mono ?_;rintro e w9 ⟨⟨v,rfl,ho⟩,hx⟩;obtain ⟨a9,n9,c9,rfl,HN9⟩:=ho.var;have HA9:=ae (HA8.out.ext hx);have HR9:=ae (ho.mono (show w1.heap.size<=w8.heap.size by omega));clear ho hx q0 q1;go_wp2_with fail;go_meet;exact ⟨_,_,_,_,rfl,HA9,HR9⟩
 obtain ⟨pb,pm,pc,X,rfl,HA,HR⟩:=hcut;clear HA8 HR8;have q0:=HA.out.c0;have q1:=HA.out.c1;have r0:=HA.out.r0;have r1:=HA.out.r1;have rf:=HA.out.rf;obtain ⟨f,h1,h2,h3,h4⟩:=HA.out.box;have HB9:=ae (h1.put2 h3 (.int .i64 x) (.slice b m c) (eD _) (gl _ _ _));have HO9:=ae (HA.out.own.put2 (show w.heap.size<w1.heap.size by omega) (.int .i64 x) (.slice b m c));have HR9:=ae (HR.out.put2 (show w.heap.size<w1.heap.size by omega) (.int .i64 x) (.slice b m c));have z0:=HB9.out.c0 (Bx.same _ _ _);have z1:=HB9.out.c1 (Bx.same _ _ _);have HX9:=ae (HB9.out.all (by omega));clear h1 h2 h3 h4 HA;go_wp2_with fail;refine bodyPost_ret (v:=.tuple #[.agg #[.int .i64 x,.slice b m c],.slice pb pm pc]) (by simp [results,Tryz.results146,go_sem,z0,z1]) rfl ⟨⟨x,b,m,c,V,pb,pm,pc,X,rfl,HO9.out.mono (by omega),HR9.out.mono (by omega),HM17.out⟩,HX9.out⟩
end Go.Proofs.YthjjfkeacobikaaGreat
namespace Go.Proofs.YthjjfkeacobikaaGreat
set_option maxRecDepth 100000
open Go.RowKit
set_option maxHeartbeats 4000000 in
theorem jx {w:World} {a:Option Addr} {n cap:Nat} (h:eF w a n cap) (hn:n<=1048576) :
 Calls Tryz.prog 58 #[.slice a n cap] w fun e w'=>(∃ (x:Int) (b:Option Addr) (m c:Nat) (V:List Int) (pb:Option Addr) (pm pc:Nat) (X:List (Int × Int)),e=.returned (.tuple #[.agg #[.int .i64 x,.slice b m c],.slice pb pm pc])/\Ints w' b m c V/\Rats w' pb pm pc X/\m<=17)/\Ext w w':=by
 obtain ⟨W,hW⟩:∃ W,W=w.alloc (.cells #[.int .i64 0,.slice none 0 0] 29):=⟨_,rfl⟩;have HWS:=ae (show W.heap.size=w.heap.size+1 by rw [hW];simp);have hX:Ext w W:=by rw [hW];exact Ext.alloc _ _
 have HR2:=ae (show W.heap[w.heap.size]?=some (.cells #[.int .i64 0,.slice none 0 0] 29 (0,0)) by rw [hW];exact aj _ _ _ rfl);have HX:=ae hX;have HN:=ae (tE (h.ext hX) hn);clear h hX;go_enter Tryz.func58,Tryz.ntmps58
 go_wp2_with fail;rw [<-hW];clear hW;refine HN.out.mono ?_;rintro e w1 ⟨⟨x,b,m,c,V,pb,pm,pc,X,rfl,hV,hP,hm17⟩,hx⟩;have hb:=hx.blk HR2.out;have r0:=gbox0 hb;have r1:=gbox1 hb;have rf:=fun k=>frozen_of_row w1 w.heap.size k _ _ hb
 have hws:=HWS.out;have HV:=ae ((hV.put2 (show w.heap.size<W.heap.size by omega) (.int .i64 x) (.slice b m c)).ints);have HP:=ae ((hP.put2 (show w.heap.size<W.heap.size by omega) (.int .i64 x) (.slice b m c)).rats);have h1:=heap_setCell_same w1 w.heap.size 0 _ _ (.int .i64 x) hb;have h2:=heap_setCell_same _ w.heap.size 1 _ _ (.slice b m c) h1;have HXF:=ae (show Ext w ((w1.setCell ⟨w.heap.size,0,none⟩ (.int .i64 x)).setCell ⟨w.heap.size,1,none⟩ (.slice b m c)) from ((HX.out.trans hx).setCell (p:=⟨w.heap.size,0,none⟩) (Nat.le_refl _) _).setCell (p:=⟨w.heap.size,1,none⟩) (Nat.le_refl _) _);have z0:((w1.setCell ⟨w.heap.size,0,none⟩ (.int .i64 x)).setCell ⟨w.heap.size,1,none⟩ (.slice b m c)).cell? ⟨w.heap.size,0,none⟩=some (.int .i64 x):=by rw [cell_of_row _ _ 0 _ _ _ h2];rfl
 have z1:((w1.setCell ⟨w.heap.size,0,none⟩ (.int .i64 x)).setCell ⟨w.heap.size,1,none⟩ (.slice b m c)).cell? ⟨w.heap.size,1,none⟩=some (.slice b m c):=by rw [cell_of_row _ _ 1 _ _ _ h2];rfl
 clear hV hP hx hb h1 h2 HN;go_wp2_with fail;refine bodyPost_ret (v:=.tuple #[.agg #[.int .i64 x,.slice b m c],.slice pb pm pc]) (by simp [results,Tryz.results58,go_sem,z0,z1]) rfl ⟨⟨x,b,m,c,V,pb,pm,pc,X,rfl,HV.out,HP.out,hm17⟩,HXF.out⟩
end Go.Proofs.YthjjfkeacobikaaGreat
