import Derived.Test.YthjjfkeacobikaaGreatPuAllG46
import Derived.Test.YthjjfkeacobikaaGreatPuAllG20
import Derived.Test.YthjjfkeacobikaaGreatPuAllG24
import Derived.Test.YthjjfkeacobikaaGreatPuAllG19
import Derived.Test.YthjjfkeacobikaaGreatPuAllG34
set_option linter.unusedVariables false
set_option linter.unusedSimpArgs false
namespace Go.Proofs.YthjjfkeacobikaaGreat
set_option maxRecDepth 100000
open Go.RowKit
section
variable {w wr w':World} {cb base g b:Nat} {va vb vc:Value} {vs:List Value} {A:List (List Int)} {B:List Int} {C:List (Int × Int)}
theorem LpO.under (h:LpO wr base g va vb vc vs A B C) (hb:b<base) (i:Nat) (v:Value):LpO (wr.setCell ⟨b,i,none⟩ v) base g va vb vc vs A B C:=by
 have hset:∀ j,base<=j->(wr.setCell ⟨b,i,none⟩ v).heap[j]?=wr.heap[j]?:=fun j hj=>heap_setCell_other _ _ _ _ (by show j ≠ b;omega)
 exact ⟨(hset g h.hg).trans h.box,h.hg,h.a.keep fun k hk=>hset k (h.a.lt k hk).1,h.rows.keep fun j k hj hk=>hset k ((h.rows.row j hj).lt k hk).1,h.b.keep fun k hk=>hset k (h.b.lt k hk).1,h.off,h.c.keep fun k hk=>hset k (h.c.lt k hk).1⟩
theorem LpO.calls (h:LpO wr base g va vb vc vs A B C) (hg:wr.grownBy w' (some cb)) (hb:cb<base):LpO w' base g va vb vc vs A B C:=by
 have hset:∀ j,base<=j->j<wr.heap.size->w'.heap[j]?=wr.heap[j]?:=fun j hj hl=>cH hg hl (by omega)
 exact ⟨(hset g h.hg h.lt).trans h.box,h.hg,h.a.keep fun k hk=>hset k (h.a.lt k hk).1 (h.a.lt k hk).2,h.rows.keep fun j k hj hk=>hset k ((h.rows.row j hj).lt k hk).1 ((h.rows.row j hj).lt k hk).2,h.b.keep fun k hk=>hset k (h.b.lt k hk).1 (h.b.lt k hk).2,h.off,h.c.keep fun k hk=>hset k (h.c.lt k hk).1 (h.c.lt k hk).2⟩
theorem LpO.offNew (h:LpO wr base g va vb vc vs A B C) {v:Value} {l:List Int} (ho:OwnI w' wr.heap.size v l):OffV vs v/\∀ k,v.ownBlock=some k->vb.ownBlock ≠ some k :=
 ⟨fun i k hi hk e=>by have h1:=((h.rows.row i (by rw [<-h.rows.len];exact hi)).lt k hk).2;have h2:=(ho.lt k e).1;omega,fun k hk e=>by have h1:=(h.b.lt k e).2;have h2:=(ho.lt k hk).1;omega⟩
def lpN (r:Nat):Bx:=Bx.nil.upd r (#[.slice none 0 0,.slice none 0 0,.slice none 0 0],109)
structure LpQ (w wr:World) (cb g:Nat) (va vb vc:Value) (vs:List Value) (A:List (List Int)) (B:List Int) (C:List (Int × Int)):Prop where
 bx:Bxs w wr cb (lpN w.heap.size)
 lp:LpO wr (w.heap.size+1) g va vb vc vs A B C
theorem eL {r k:Nat} (h:k ≠ r):lpN r k=none:=by unfold lpN;rw [Bx.other _ _ h];rfl
theorem LpQ.ext (h:LpQ w wr cb g va vb vc vs A B C) (hx:Ext wr w'):LpQ w w' cb g va vb vc vs A B C:=⟨h.bx.ext hx,h.lp.ext hx⟩
theorem LpQ.call (h:LpQ w wr cb g va vb vc vs A B C) (hcl:cb<w.heap.size) (hc:Cur w' cb) (hg:wr.grownBy w' (some cb)):LpQ w w' cb g va vb vc vs A B C:=⟨h.bx.call hc hg,h.lp.calls hg (by omega)⟩
theorem LpQ.sz (h:LpQ w wr cb g va vb vc vs A B C):w.heap.size+1<=wr.heap.size:=by have:=h.lp.lt;have:=h.lp.hg;omega
theorem LpQ.bxA (h:LpQ w wr cb g va vb vc vs A B C) (hcl:cb<w.heap.size) (hgr:wr.grownBy w' va.ownBlock):Bxs w w' cb (lpN w.heap.size):=h.bx.grew hgr fun k hk=>by have:=(h.lp.a.lt k hk).1;exact ⟨by omega,by omega,eL (by omega)⟩
theorem LpQ.bxB (h:LpQ w wr cb g va vb vc vs A B C) (hcl:cb<w.heap.size) (hgr:wr.grownBy w' vb.ownBlock):Bxs w w' cb (lpN w.heap.size):=h.bx.grew hgr fun k hk=>by have:=(h.lp.b.lt k hk).1;exact ⟨by omega,by omega,eL (by omega)⟩
theorem LpQ.bxC (h:LpQ w wr cb g va vb vc vs A B C) (hcl:cb<w.heap.size) (hgr:wr.grownBy w' vc.ownBlock):Bxs w w' cb (lpN w.heap.size):=h.bx.grew hgr fun k hk=>by have:=(h.lp.c.lt k hk).1;exact ⟨by omega,by omega,eL (by omega)⟩
theorem LpQ.pushC (h:LpQ w wr cb g va vb vc vs A B C) (hcl:cb<w.heap.size) (hgr:wr.grownBy w' vc.ownBlock) {vc':Value} {C':List (Int × Int)} (ho:OwnR w' (w.heap.size+1) vc' C'):LpQ w (w'.setCell ⟨g,2,none⟩ vc') cb g va vb vc' vs A B C':=by
 have hb:=h.lp.boxC (Ext.refl _) hgr;have hg:=h.lp.hg;obtain ⟨a,n,c,rfl,_⟩:=h.lp.c.var;exact ⟨(h.bxC hcl hgr).putr (by omega) (by omega) (eL (by omega)) (LpO.boxc2 hb) (bI _ _ _) _,h.lp.pushC (Ext.refl _) hgr ho⟩
theorem LpQ.pushB (h:LpQ w wr cb g va vb vc vs A B C) (hcl:cb<w.heap.size) (hgr:wr.grownBy w' vb.ownBlock) {vb':Value} {B':List Int} (ho:OwnI w' (w.heap.size+1) vb' B') (hn:Near wr vb vb'):LpQ w (w'.setCell ⟨g,1,none⟩ vb') cb g va vb' vc vs A B' C:=by
 have hb:=h.lp.boxB (Ext.refl _) hgr;have hg:=h.lp.hg;obtain ⟨a,n,c,rfl,_⟩:=h.lp.b.var;exact ⟨(h.bxB hcl hgr).putr (by omega) (by omega) (eL (by omega)) (LpO.boxc1 hb) (bI _ _ _) _,h.lp.pushB (Ext.refl _) hgr ho hn⟩
theorem LpQ.pushA (h:LpQ w wr cb g va vb vc vs A B C) (hcl:cb<w.heap.size) {vr va':Value} {r:List Int} (hr:OwnI wr (w.heap.size+1) vr r) (hoff:OffV vs vr) (hb:∀ k,vr.ownBlock=some k->vb.ownBlock ≠ some k) (hgr:wr.grownBy w' va.ownBlock) (ho:OwnV w' (w.heap.size+1) va' (vs++[vr])) :
 LpQ w (w'.setCell ⟨g,0,none⟩ va') cb g va' vb vc (vs++[vr]) (A++[r]) B C:=by
 have hbx:=h.lp.boxA (Ext.refl _) hgr;have hg:=h.lp.hg;have hB:=h.bxA hcl hgr;obtain ⟨a,n,c,e,_⟩:=h.lp.a.var;refine ⟨hB.putr (by omega) (by omega) (eL (by omega)) (LpO.boxc0 hbx) (by rw [e];exact bI _ _ _) _,h.lp.pushA2 hr hoff hb hgr ho⟩
theorem LpQ.putA {G N cap:Nat} (h:LpQ w wr cb g (.slice (some ⟨G,0,none⟩) N cap) vb vc vs A B C) (hcl:cb<w.heap.size) {k:Nat} (hk:k<N) {v':Value} {r:List Int} (hgr:wr.grownBy w' (vs[k]?.getD undef).ownBlock) (ho:OwnI w' (w.heap.size+1) v' r) (hn:Near wr (vs[k]?.getD undef) v') :
 LpQ w (w'.setCell ⟨G,k,none⟩ v') cb g (.slice (some ⟨G,0,none⟩) N cap) vb vc (vs.set k v') (A.set k r) B C:=by
 have hkl:k<A.length:=by rw [<-h.lp.rows.len,h.lp.a.len];exact hk
 have hrk:=h.lp.rows.row k hkl;have hB:Bxs w w' cb (lpN w.heap.size):=h.bx.grew hgr fun j hj=>by have:=(hrk.lt j hj).1;exact ⟨by omega,by omega,eL (by omega)⟩
 have hG:=(h.lp.a.lt G rfl).1;obtain ⟨hc,_⟩:=h.lp.putA0 (Ext.refl _) hk hgr;obtain ⟨ar,n,cr,hv,_⟩:=hrk.var;rw [hv] at hc;exact ⟨hB.putr (by omega) (by omega) (eL (by omega)) hc (bI _ _ _) _,h.lp.putA (Ext.refl _) hk hgr ho hn⟩
theorem LpQ.growRow (h:LpQ w wr cb g va vb vc vs A B C) (hcl:cb<w.heap.size) {b2:Nat} {v:Value} {l:List Int} (ho:OwnI wr b2 v l) (hb2:w.heap.size+1<=b2) (hgr:wr.grownBy w' v.ownBlock) (hoff:OffV vs v) (hb:∀ k,v.ownBlock=some k->vb.ownBlock ≠ some k):LpQ w w' cb g va vb vc vs A B C :=
 ⟨h.bx.grew hgr fun k hk=>by have:=(ho.lt k hk).1;exact ⟨by omega,by omega,eL (by omega)⟩,h.lp.growRow ho hgr hoff hb⟩
end
theorem pick10:∀ k,k<10->-4<=([0,0,1,1,2,-1,-2,3,5,-4]:List Int)[k]?.getD 0/\([0,0,1,1,2,-1,-2,3,5,-4]:List Int)[k]?.getD 0<=5:=by
 have:∀ k:Fin 10,-4<=([0,0,1,1,2,-1,-2,3,5,-4]:List Int)[k.val]?.getD 0/\([0,0,1,1,2,-1,-2,3,5,-4]:List Int)[k.val]?.getD 0<=5:=by decide
 exact fun k hk=>this ⟨k,hk⟩
theorem pick7:∀ k,k<7->-2<=([0,1,4,6,7,-2,10]:List Int)[k]?.getD 0/\([0,1,4,6,7,-2,10]:List Int)[k]?.getD 0<=10:=by
 have:∀ k:Fin 7,-2<=([0,1,4,6,7,-2,10]:List Int)[k.val]?.getD 0/\([0,1,4,6,7,-2,10]:List Int)[k.val]?.getD 0<=10:=by decide
 exact fun k hk=>this ⟨k,hk⟩
theorem pick4:∀ k,k<4->1<=([1,1,1,2]:List Int)[k]?.getD 0/\([1,1,1,2]:List Int)[k]?.getD 0<=2:=by
 have:∀ k:Fin 4,1<=([1,1,1,2]:List Int)[k.val]?.getD 0/\([1,1,1,2]:List Int)[k.val]?.getD 0<=2:=by decide
 exact fun k hk=>this ⟨k,hk⟩
set_option maxHeartbeats 4000000 in
theorem ke {w:World} {cb:Nat} (h:Cur w cb) :
 Calls Tryz.prog 259 #[.pointer (some ⟨cb,0,none⟩)] w fun e w'=>(∃ y:Int,e=.returned (.int .i64 y)/\-4<=y/\y<=5)/\Cur w' cb/\w.grownBy w' (some cb):=by
 have hcl:=h.lt;have hli:Ints (w.alloc (.cells #[.int .i64 0,.int .i64 0,.int .i64 1,.int .i64 1,.int .i64 2,.int .i64 (-1),.int .i64 (-2),.int .i64 3,.int .i64 5,.int .i64 (-4)] 3)) (some ⟨w.heap.size,0,none⟩) 10 10 [0,0,1,1,2,-1,-2,3,5,-4]:=Ints.lit w [0,0,1,1,2,-1,-2,3,5,-4] 3 (by decide);have HB:=ae ((Bxs.start h (cL (some cb) (Ext.refl w))).ext (Ext.alloc w (.cells #[.int .i64 0,.int .i64 0,.int .i64 1,.int .i64 1,.int .i64 2,.int .i64 (-1),.int .i64 (-2),.int .i64 3,.int .i64 5,.int .i64 (-4)] 3)));clear h;go_enter Tryz.func259,Tryz.ntmps259
 go_wp2_with fail;refine (dV HB.out.cur hli (by omega) (fun b off e=>by simp only [Option.some.injEq,Addr.mk.injEq,and_true] at e;omega)).mono ?_;rintro e w5 ⟨⟨q,hq,rfl⟩,hc,hg⟩;have hq2:=pick10 q hq;obtain ⟨y,hy⟩:∃ y,y=([0,0,1,1,2,-1,-2,3,5,-4]:List Int)[q]?.getD 0:=⟨_,rfl⟩;rw [<-hy] at hq2;rw [<-hy];have HB5:=ae (HB.out.call hc hg);clear hy hc hg hli;go_wp2_with fail;go_ret;exact ⟨⟨y,rfl,hq2⟩,HB5.out.cur,HB5.out.grown⟩
def RowB (r:List Int) (n:Nat):Prop:=r.length=n/\∀ x ∈ r,-5000<=x/\x<=5000
theorem RowB.snoc {r:List Int} {n:Nat} (h:RowB r n) {x:Int} (h0:-5000<=x) (h1:x<=5000):RowB (r++[x]) (n+1) :=
 ⟨by rw [List.length_append,h.1];rfl,fun y hy=>by
  rcases List.mem_append.1 hy with hy|hy
  ·exact h.2 y hy
  ·rw [List.mem_singleton] at hy;subst hy;exact ⟨h0,h1⟩⟩
def eh (A:List (List Int)) (k n:Nat):Prop:=∀ j,j<A.length->RowB (A[j]?.getD []) (if j<k then n+1 else n)
theorem eh.push {A:List (List Int)} {n:Nat} (h:eh A 0 n) {r:List Int} (hr:RowB r n):eh (A++[r]) 0 n:=fun j hj=>by
 rw [if_neg (by omega)];by_cases hl:j<A.length
 ·have:=h j hl;rw [if_neg (by omega)] at this;rwa [List.getElem?_append_left hl]
 ·have:j=A.length:=by simp at hj;omega
  subst this;rw [List.getElem?_concat_length];exact hr
theorem eh.put {A:List (List Int)} {k n:Nat} (h:eh A k n) (hk:k<A.length) {r:List Int} (hr:RowB r (n+1)):eh (A.set k r) (k+1) n:=fun j hj=>by
 rw [List.length_set] at hj;by_cases hjk:j=k
 ·subst hjk;rw [List.getElem?_set_self hk,if_pos (by omega)];exact hr
 ·rw [List.getElem?_set_ne (Ne.symm hjk)];have:=h j hj;by_cases hlt:j<k
  ·rw [if_pos hlt] at this;rwa [if_pos (by omega)]
  ·rw [if_neg hlt] at this;rwa [if_neg (by omega)]
theorem eh.full {A:List (List Int)} {k n:Nat} (h:eh A k n) (hk:A.length<=k):eh A 0 (n+1):=fun j hj=>by
 have:=h j hj;rw [if_pos (by omega)] at this;rwa [if_neg (by omega)]
theorem okLP_of {A:List (List Int)} {B:List Int} {C:List (Int × Int)} (hC:C.length<=70) (hA:A.length<=8) (hB:B.length=A.length) (hc:allV C=true) (ha:eh A 0 C.length) (hb:∀ x ∈ B,-5000<=x/\x<=5000):okLP A B C=true:=by
 unfold okLP;simp only [Bool.and_eq_true,decide_eq_true_eq,List.all_eq_true,inB];refine ⟨hC,hA,hB,hc,fun r hr=>?_,fun x hx=>hb x hx⟩;obtain ⟨j,hj,e⟩:=List.mem_iff_getElem.1 hr;have h1:=ha j hj;rw [if_neg (by omega),List.getElem?_eq_getElem hj,Option.getD_some,e] at h1;exact ⟨h1.1,fun x hx=>h1.2 x hx⟩
structure LpD (w:World) (a:Option Addr) (na ca:Nat) (b:Option Addr) (nb cb:Nat) (c:Option Addr) (nc cc:Nat):Prop where
 own:∃ A B C,LpC w a na ca b nb cb c nc cc A B C/\okLP A B C=true/\1<=A.length/\A.length<=3/\C.length<=6
set_option maxHeartbeats 32000000 in
theorem s_l5Draw {w:World} {cb:Nat} (h:Cur w cb) :
 Calls Tryz.prog 205 #[.pointer (some ⟨cb,0,none⟩)] w fun e w'=>(∃ a na ca b nb cb' c nc cc,e=.returned (lpW a na ca b nb cb' c nc cc)/\LpD w' a na ca b nb cb' c nc cc)/\Cur w' cb/\w.grownBy w' (some cb):=by
 have hcl:=h.lt;obtain ⟨W,hW⟩:∃ W,W=w.alloc (.cells #[.slice none 0 0,.slice none 0 0,.slice none 0 0] 109):=⟨_,rfl⟩;have hws:W.heap.size=w.heap.size+1:=by rw [hW];simp
 have hnd:∀ (j:Nat) (y:Int),(#[Value.slice none 0 0,.slice none 0 0,.slice none 0 0]:Array Value)[j]? ≠ some (Value.int .u8 y):=fun j y e=>by
  match j with
  | 0=>simp at e
  | 1=>simp at e
  | 2=>simp at e
  | j+3=>simp at e
 have HB0:=ae (show Bxs w W cb (lpN w.heap.size) by
  rw [hW];exact (Bxs.start h (cL (some cb) (Ext.refl w))).new #[.slice none 0 0,.slice none 0 0,.slice none 0 0] 109 hnd)
 clear h hnd;go_enter Tryz.func205,Tryz.ntmps205
 go_upto_region 1 with fail;rw [<-hW];clear hW;go_wp2_with fail;refine (ch HB0.out.cur 3 (by omega)).mono ?_;rintro e w0 ⟨⟨y,rfl,hy0,hy1⟩,hc,hg⟩;have HBA:=ae (HB0.out.call hc hg);have hs0:=hg.size;obtain ⟨n,hn⟩:∃ n:Nat,1+y=(n:Int):=⟨(1+y).toNat,by omega⟩;have hn1:1<=n:=by omega
 have hn3:n<=3:=by omega
 have hwn:IntKind.i64.wrap (1+y)=(n:Int):=by rw [IntKind.wrap_i64];omega
 clear hc hg;go_wp2_with fail;refine (ch HBA.out.cur 3 (by omega)).mono ?_;rintro e w1 ⟨⟨z,rfl,hz0,hz1⟩,hc,hg⟩;have HBB:=ae (HBA.out.call hc hg);have hs1:=hg.size;obtain ⟨m,hm⟩:∃ m:Nat,1+z=(m:Int):=⟨(1+z).toNat,by omega⟩;have hm1:1<=m:=by omega
 have hm3:m<=3:=by omega
 have hwm:IntKind.i64.wrap (1+z)=(m:Int):=by rw [IntKind.wrap_i64];omega
 clear hc hg;go_wp2_with fail;refine (s_l1Once HBB.out.cur 2 (by omega)).mono ?_;rintro e w2 ⟨⟨sl,rfl⟩,hc,hg⟩;have hs2:=hg.size;obtain ⟨E,hE⟩:∃ E,E=w2.alloc (.cells #[.slice none 0 0,.slice none 0 0,.slice none 0 0] 109):=⟨_,rfl⟩;obtain ⟨g,hgx⟩:∃ g,g=w2.heap.size:=⟨_,rfl⟩
 have HQ0:=ae (show LpQ w E cb g (.slice none 0 0) (.slice none 0 0) (.slice none 0 0) [] [] [] [] by
  rw [hE,hgx];exact ⟨(HBB.out.call hc hg).ext (Ext.alloc _ _),LpO.new (by omega)⟩)
 clear hc hg;go_upto_region 5 with fail;rw [<-hE,<-hgx];clear hE hgx hwn hwm hn hm hy0 hy1 hz0 hz1 hs0 hs1 hs2 hws HB0 HBA HBB;go_wp2_with fail
 go_loopg [7] n (fun gk ii wr=>∃ (k:Nat) (vc:Value) (C:List (Int × Int)),Hid (gk+k=n)/\ii=.int .i64 (k:Int)/\Hid (C.length=k)/\Hid (allV C=true)/\Hid (LpQ w wr cb g (.slice none 0 0) (.slice none 0 0) vc [] [] [] C))
 case atStart=>exact ⟨0,_,_,ae (by omega),rfl,ae rfl,ae rfl,HQ0⟩
 case round =>
  obtain ⟨g1,h_g1⟩:∃ x,x=gk:=⟨_,rfl⟩;subst h_g1;obtain ⟨wr,h_wr⟩:∃ x,x=wr:=⟨_,rfl⟩;subst h_wr;obtain ⟨k,vc,C,HK,rfl,HCL,HCV,HQ⟩:=hrel;by_cases hlt:k<n
  ·go_wp2_with fail;refine (ke HQ.out.bx.cur).mono ?_;rintro e w3 ⟨⟨y,rfl,hy0,hy1⟩,hc,hg⟩;have HQ3:=ae (HQ.out.call hcl hc hg);clear hc hg;have hli:Ints (w3.alloc (.cells #[.int .i64 1,.int .i64 1,.int .i64 1,.int .i64 2] 3)) (some ⟨w3.heap.size,0,none⟩) 4 4 [1,1,1,2]:=Ints.lit w3 [1,1,1,2] 3 (by decide);have HQ4:=ae (HQ3.out.ext (Ext.alloc w3 (.cells #[.int .i64 1,.int .i64 1,.int .i64 1,.int .i64 2] 3)));have hs3:=HQ3.out.sz;go_wp2_with fail;refine (dV HQ4.out.bx.cur hli (by omega) (fun b off e=>by simp only [Option.some.injEq,Addr.mk.injEq,and_true] at e;omega)).mono ?_;rintro e w5 ⟨⟨q,hq,rfl⟩,hc,hg⟩;have hd:=pick4 q hq;obtain ⟨d,hdd⟩:∃ d,d=([1,1,1,2]:List Int)[q]?.getD 0:=⟨_,rfl⟩;rw [<-hdd] at hd;rw [<-hdd];have HQ5:=ae (HQ4.out.call hcl hc hg);have hok:=mv (n:=y) hd.1 (by omega) (by omega) (by omega);have hval:=fg hok;obtain ⟨p1,p2,ok,hpq⟩:∃ a b c,aD y d=((a,b),c):=⟨_,_,_,rfl⟩;have HRT:=ae (fun w=>iH y d w);simp only [hpq] at HRT hval hok;subst hok;have HVAL:=ae hval;clear hc hg hdd hli hpq hval;go_wp2_with fail;refine (HRT.out _).mono ?_;rintro e w6 ⟨rfl,hx6⟩;have HQ6:=ae (HQ5.out.ext hx6);clear hx6;obtain ⟨w7,hw7⟩:∃ x,x=w6.alloc (.cells #[.int .i64 p1,.int .i64 p2] 43):=⟨_,rfl⟩;obtain ⟨gx,hgx⟩:∃ x,x=w6.heap.size:=⟨_,rfl⟩;have HQ7:=ae (show LpQ w w7 cb g _ _ vc [] [] [] C by rw [hw7];exact HQ6.out.ext (Ext.alloc _ _))
   have HBX:=ae (show ah w6 w7 gx p1 p2 by rw [hw7,hgx];exact ah.new (Ext.refl _) _ _);go_upto_region 9 with fail;rw [<-hw7,<-hgx];clear hw7 hgx;have b0:=HBX.out.c0;have b1:=HBX.out.c1;have t2:=HQ7.out.lp.c2;have hs7:=HQ7.out.sz
   go_wp2_with (first
    | (at_builtin;refine aJ rfl _ _ rfl (w.heap.size+1) vc _ rfl (HQ7.out.lp.c.ext (Ext.alloc _ _)) _ 1 _ [(p1,p2)] rfl (Rats.one' _ _ _ _ _ (by simp)) (by rw [HCL.out];omega) (by simp;omega) ?_;intro v8 w8 ho hg8 hnear;obtain ⟨a8,n8,c8,rfl,HN8⟩:=ho.var;have HQ8:=ae ((HQ7.out.ext (Ext.alloc _ _)).pushC hcl hg8 ho);have hbx:=HQ7.out.lp.boxC (Ext.alloc _ _) hg8;have c28:=LpO.boxc2 hbx;have cf8:=LpO.boxf hbx;clear ho hg8 hnear hbx))
   go_roundg (g1-1)
   case measure=>have:=HK.out;omega
   case rel=>exact ⟨k+1,_,_,ae (by have:=HK.out;omega),by go_num,ae (by rw [List.length_append,HCL.out];rfl),ae (by unfold allV;rw [List.all_append];have h1:=HCV.out;unfold allV at h1;rw [h1];simpa using HVAL.out),HQ8⟩
  ·have hkn:n=k:=by have:=HK.out;omega
   subst hkn;go_wp2_with fail
   go_loopg [10] m (fun gk ii wr=>∃ (k:Nat) (va vb:Value) (vs:List Value) (A:List (List Int)) (B:List Int),Hid (gk+k=m)/\ii=.int .i64 (k:Int)/\Hid (A.length=k/\B.length=k)/\Hid (eh A 0 n)/\Hid (∀ x ∈ B,-5000<=x/\x<=5000)/\Hid (LpQ w wr cb g va vb vc vs A B C))
   case atStart=>exact ⟨0,_,_,_,_,_,ae (by omega),rfl,ae ⟨rfl,rfl⟩,ae (fun j hj=>absurd hj (by simp)),ae (fun x hx=>by cases hx),HQ⟩
   case round =>
    obtain ⟨g2,h_g2⟩:∃ x,x=gk:=⟨_,rfl⟩;subst h_g2;obtain ⟨wr2,h_wr2⟩:∃ x,x=wr:=⟨_,rfl⟩;subst h_wr2;obtain ⟨i,va,vb,vs,A,B,HI,rfl,HAB,HRB,HBB,HP⟩:=hrel;have hsz:=HP.out.sz;by_cases hit:i<m
    ·have HR0:=ae (OwnI.madeS wr2 wr2.heap.size _ rfl (Nat.le_refl _));have HP1:=ae (HP.out.ext (Ext.alloc wr2 (.cells #[] 3)));go_wp2_with fail
     go_loopg [11,12] n (fun gk row ii wi=>∃ (j:Nat) (a2:Option Addr) (n2 p2:Nat) (L:List Int),Hid (gk+j=n)/\ii=.int .i64 (j:Int)/\row=.slice a2 n2 p2/\Hid (RowB L j)/\Hid (LpQ w wi cb g va vb vc vs A B C)/\Hid (OwnI wi wr2.heap.size (.slice a2 n2 p2) L)/\Hid (wr2.heap.size<=wi.heap.size))
     case atStart=>exact ⟨0,_,_,_,[],ae (by omega),rfl,rfl,ae ⟨rfl,fun x hx=>by cases hx⟩,HP1,HR0,ae (by simp)⟩
     case round =>
      obtain ⟨g3,h_g3⟩:∃ x,x=gk:=⟨_,rfl⟩;subst h_g3;obtain ⟨wi,h_wi⟩:∃ x,x=wr:=⟨_,rfl⟩;subst h_wi;obtain ⟨j,a2,n2,p2,L,HJ,rfl,rfl,HLB,HPi,HO,HZ⟩:=hrel;have hzi:=HZ.out;by_cases hjt:j<n
      ·go_wp2_with fail;refine (ke HPi.out.bx.cur).mono ?_;rintro e w3 ⟨⟨y,rfl,hy0,hy1⟩,hc,hg⟩;have HP3:=ae (HPi.out.call hcl hc hg);have HO3:=ae (HO.out.calls hg (show cb<wr2.heap.size by omega));have hs3:=hg.size;clear hc hg;have HLL:=ae HLB.out.1;have HOF:=ae (HP.out.lp.offNew HO3.out);have hsi:wr2.heap.size<=w3.heap.size:=by omega
       go_wp2_with (first
        | (at_builtin;refine bw rfl _ _ rfl wr2.heap.size (.slice a2 n2 p2) _ rfl (HO3.out.ext (Ext.alloc _ _)) _ 1 _ [y] rfl (Ints.oneS _ _ _ _ (by simp)) (by rw [HLL.out];omega) (by simp;omega) ?_;intro v6 w6 ho hg6 hnear;have HP6:=ae ((HP3.out.ext (Ext.alloc _ _)).growRow hcl (HO3.out.ext (Ext.alloc _ _)) hsz hg6 HOF.out.1 HOF.out.2);obtain ⟨a6,n6,c6,rfl,HN6⟩:=ho.var;have HO6:=ae ho;have hs6:=hg6.size;rw [World.size_alloc] at hs6;clear ho hg6 hnear))
       go_roundg (g3-1)
       case measure=>have:=HJ.out;omega
       case rel=>exact ⟨j+1,a6,n6,c6,L++[y],ae (by have:=HJ.out;omega),by go_num,rfl,ae (HLB.out.snoc (by omega) (by omega)),HP6,HO6,ae (by omega)⟩
      ·have hjn:n=j:=by have:=HJ.out;omega
       subst hjn;have HOF:=ae (HP.out.lp.offNew HO.out);have t0:=HPi.out.lp.c0;have hszi:=HPi.out.sz;have HVL:=ae (show vs.length=i by rw [HPi.out.lp.rows.len];exact HAB.out.1)
       go_upto_region 19 with (first
        | (at_builtin;refine ea rfl _ _ rfl (w.heap.size+1) va vs rfl (HPi.out.lp.a.ext (Ext.alloc _ _)) _ _ 1 rfl (by simp;rfl) rfl (by rw [HVL.out];omega) (by simp;omega) ?_;intro v6 w6 ho hg6 hnear;have HP6:=ae ((HPi.out.ext (Ext.alloc _ _)).pushA hcl ((HO.out.mono hsz).ext (Ext.alloc _ _)) HOF.out.1 HOF.out.2 hg6 ho);have hbx:=HPi.out.lp.boxA (Ext.alloc _ _) hg6;have c06:=LpO.boxc0 hbx;have cf6:=LpO.boxf hbx;obtain ⟨a6,n6,c6,rfl,HN6⟩:=ho.var;clear ho hg6 hnear hbx))
       obtain ⟨w7,hw7⟩:∃ x,x=w6.setCell ⟨g,0,none⟩ (.slice a6 n6 c6):=⟨_,rfl⟩;rw [<-hw7] at HP6;rw [<-hw7];clear hw7 c06 cf6 t0;have t1:=HP6.out.lp.c1;have HVB:=ae HAB.out.2;have hk2:Ext w7 w7.drew:=Ext.drew w7;have HPD:=ae (HP6.out.ext hk2);refine ci (M:=[8]) (S:=fun w'=>w'.cell? ⟨g,1,none⟩=some vb) (by kernel_rfl) ?_;have hHeld:=hk2.cellSome t1;obtain ⟨wd,hwd⟩:∃ y,y=w7.drew:=⟨_,rfl⟩;rw [<-hwd] at hHeld HPD;rw [<-hwd];clear hwd hk2 t1;have hli:Ints (wd.alloc (.cells #[.int .i64 0,.int .i64 1,.int .i64 4,.int .i64 6,.int .i64 7,.int .i64 (-2),.int .i64 10] 3)) (some ⟨wd.heap.size,0,none⟩) 7 7 [0,1,4,6,7,-2,10]:=Ints.lit wd [0,1,4,6,7,-2,10] 3 (by decide);have HPA:=ae (HPD.out.ext (Ext.alloc wd (.cells #[.int .i64 0,.int .i64 1,.int .i64 4,.int .i64 6,.int .i64 7,.int .i64 (-2),.int .i64 10] 3)));have hsd:=HPD.out.sz;refine lp 0 ?_;refine ll 1 ?_;refine lp 2 ?_;refine aG (i:=3) (oi:=?_) ?_ ?_ ?_ (fun K hK=>?_);rotate_left
       ·simp only [gA,gB,gC];rfl
       ·kernel_rfl
       ·kernel_rfl
       go_simp;refine hK.out _ _ (fun _=>HPA.out.lp.c1) ?_;clear hK K
       try simp only [Act.put,sA,sB,sC]
       refine aG (i:=4) (oi:=?_) ?_ ?_ ?_ (fun K hK=>?_);rotate_left
       ·simp only [gA,gB,gC];rfl
       ·kernel_rfl
       ·kernel_rfl
       go_simp;go_at_call 106;refine (dV HPA.out.bx.cur hli (by omega) (fun b off e=>by simp only [Option.some.injEq,Addr.mk.injEq,and_true] at e;omega)).mono ?_;rintro e w8 ⟨⟨q,hq,rfl⟩,hc,hg⟩;have hb:=pick7 q hq;obtain ⟨y,hy⟩:∃ y,y=([0,1,4,6,7,-2,10]:List Int)[q]?.getD 0:=⟨_,rfl⟩;rw [<-hy] at hb;rw [<-hy];have HP8:=ae (HPA.out.call hcl hc hg);clear hy hc hg hli;go_wp2_with fail;refine hK.out _ _ (fun _=>HP8.out.lp.c1) ?_;have hHeld:=HP8.out.lp.c1;clear hK K
       try simp only [Act.put,sA,sB,sC]
       refine aG (i:=5) (oi:=?_) ?_ ?_ ?_ (fun K hK=>?_);rotate_left
       ·simp only [gA,gB,gC];rfl
       ·kernel_rfl
       ·kernel_rfl
       go_simp;refine hK.out _ _ (fun _=>(HP8.out.ext (Ext.alloc _ _)).lp.c1) ?_;clear hK K
       try simp only [Act.put,sA,sB,sC]
       refine aG (i:=6) (oi:=?_) ?_ ?_ ?_ (fun K hK=>?_);rotate_left
       ·simp only [gA,gB,gC];rfl
       ·kernel_rfl
       ·kernel_rfl
       refine bG _ _ (by rfl) (w.heap.size+1) vb _ (by rfl) (HP8.out.lp.b.ext (Ext.alloc _ _)) _ 1 _ [y] (by rfl) (Ints.oneS _ _ _ _ (by simp)) (by rw [HVB.out];omega) (by have:=HP8.out.sz;simp;omega) ?_;intro v9 w9 ho hg9 hnear;have HP9:=ae ((HP8.out.ext (Ext.alloc _ _)).pushB hcl hg9 ho hnear);have hbx:=HP8.out.lp.boxB (Ext.alloc _ _) hg9;have c19:=LpO.boxc1 hbx;have cf9:=LpO.boxf hbx;obtain ⟨a9,n9,c9,rfl,HN9⟩:=ho.var;clear ho hg9 hnear hbx;refine hK.out _ _ (fun _=>c19) ?_;have hHeld:=c19;clear hK K
       try simp only [Act.put,sA,sB,sC]
       refine lp 7 ?_;refine cq (i:=8) (oi:=?_) (w':=?_) ?_ ?_ ?_ ?_ ?_ ?_ ?_;rotate_left 2
       ·simp only [gA,gB,gC];rfl
       ·kernel_rfl
       ·kernel_rfl
       ·exact of_decide_eq_true (by kernel_rfl)
       ·rfl
       ·go_simp;(try with_reducible rfl)
       try simp only [Act.put,sA,sB,sC]
       refine cv (by kernel_rfl) ?_ _;obtain ⟨wz,hwz⟩:∃ x,x=w9.setCell ⟨g,1,none⟩ (.slice a9 n9 c9):=⟨_,rfl⟩;rw [<-hwz] at HP9;rw [<-hwz];clear hwz c19 cf9 hHeld;go_wp2_with fail
       go_roundg (g2-1)
       case measure=>have:=HI.out;omega
       case rel =>
        refine ⟨i+1,_,_,_,_,_,ae (by have:=HI.out;omega),by go_num,ae ⟨by rw [List.length_append,HAB.out.1];rfl,by rw [List.length_append,HAB.out.2];rfl⟩,ae (HRB.out.push HLB.out),ae ?_,HP9⟩;intro x hx
        rcases List.mem_append.1 hx with hx|hx
        ·exact HBB.out x hx
        ·rw [List.mem_singleton] at hx;subst hx;omega
    ·have him:m=i:=by have:=HI.out;omega
     have HNB:=ae (show B.length=m by rw [HAB.out.2];omega);subst him;obtain ⟨aA,nA,cA,rfl,HNA⟩:=HP.out.lp.a.var;obtain rfl:m=nA:=by have h1:=HNA.out;rw [HP.out.lp.rows.len,HAB.out.1] at h1;omega
     obtain ⟨G,hG,hbG,_⟩:=HP.out.lp.a.cell (k:=0) (by omega);subst hG;go_wp2_with fail
     go_loopg [13] m (fun gk ii wr=>∃ (k:Nat) (vc:Value) (vs:List Value) (A:List (List Int)) (C:List (Int × Int)),Hid (gk+k=m)/\ii=.int .i64 (k:Int)/\Hid (A.length=m)/\Hid (eh A 0 (n+k))/\Hid (C.length=n+k/\allV C=true)/\Hid (LpQ w wr cb g (.slice (some ⟨G,0,none⟩) m cA) vb vc vs A B C))
     case atStart=>exact ⟨0,_,_,_,_,ae (by omega),rfl,ae HAB.out.1,HRB,ae ⟨HCL.out,HCV.out⟩,HP⟩
     clear HP HRB HAB HNA
     case round =>
      obtain ⟨g4,h_g4⟩:∃ x,x=gk:=⟨_,rfl⟩;subst h_g4;obtain ⟨wr4,h_wr4⟩:∃ x,x=wr:=⟨_,rfl⟩;subst h_wr4;obtain ⟨k,vc,vs,A,C,HK4,rfl,HLA,HRB,HCC,HP⟩:=hrel;by_cases hgo:k<m/\sl=true
      ·obtain ⟨hkm,rfl⟩:=hgo;go_wp2_with fail
       go_loopg [14] m (fun gk ii wr=>∃ (j:Nat) (vs:List Value) (A:List (List Int)),Hid (gk+j=m)/\ii=.int .i64 (j:Int)/\Hid (A.length=m)/\Hid (eh A j (n+k))/\Hid (LpQ w wr cb g (.slice (some ⟨G,0,none⟩) m cA) vb vc vs A B C))
       case atStart=>exact ⟨0,_,_,ae (by omega),rfl,HLA,HRB,HP⟩
       clear HP HRB HLA
       case round =>
        obtain ⟨g5,h_g5⟩:∃ x,x=gk:=⟨_,rfl⟩;subst h_g5;obtain ⟨wr5,h_wr5⟩:∃ x,x=wr:=⟨_,rfl⟩;subst h_wr5;obtain ⟨j,vs,A,HJ,rfl,HLA,HRB,HP⟩:=hrel;have hsz:=HP.out.sz;by_cases hjt:j<m
        ·have hk2:Ext wr5 wr5.drew:=Ext.drew wr5;have HPD:=ae (HP.out.ext hk2);have hrow:=HPD.out.lp.rows.row j (by rw [HLA.out];exact hjt);have hrb:=HRB.out j (by rw [HLA.out];exact hjt);rw [if_neg (by omega)] at hrb;obtain ⟨ar,nr,cr,hv,HNR⟩:=hrow.var;have HV:=ae hv;have HROW:=ae (show OwnI wr5.drew (w.heap.size+1) (.slice ar nr cr) (A[j]?.getD []) by rw [<-hv];exact hrow);have HRW:=ae hrb;have HRL:=ae hrb.1
         have HCE:=ae (fun (w':World) (h:LpQ w w' cb g (.slice (some ⟨G,0,none⟩) m cA) vb vc vs A B C)=>(⟨h.lp.c0,by
          obtain ⟨G',hG',_,hc⟩:=h.lp.a.cell hjt;simp only [Option.some.injEq,Addr.mk.injEq,and_true] at hG';subst hG';rw [hc j hjt,<-hv];have:j<vs.length:=by rw [h.lp.rows.len,HLA.out];exact hjt
          simp [this]⟩:w'.cell? ⟨g,0,none⟩=some (.slice (some ⟨G,0,none⟩) m cA)/\w'.cell? ⟨G,j,none⟩=some (.slice ar nr cr)))
         have hj0:(0:Int)<=(j:Int):=by omega
         have hj1:(j:Int)<(m:Int):=by omega
         obtain ⟨eqv,heq⟩:∃ b,((j:Int) == (k:Int))=b:=⟨_,rfl⟩;clear hrow hrb hv;go_wp2_with fail;refine ci (M:=[15]) (S:=fun w'=>w'.cell? ⟨g,0,none⟩=some (.slice (some ⟨G,0,none⟩) m cA)/\w'.cell? ⟨G,j,none⟩=some (.slice ar nr cr)) (by kernel_rfl) ?_;have hHeld:=HCE.out _ HPD.out;obtain ⟨wd,hwd⟩:∃ y,y=wr5.drew:=⟨_,rfl⟩;rw [<-hwd] at hHeld HPD HROW;rw [<-hwd];clear hwd hk2;have hsd:=HPD.out.sz;obtain ⟨bt,hbt⟩:∃ b,b=bitI eqv:=⟨_,rfl⟩;have hbb:0<=bt/\bt<=1:=by rw [hbt];cases eqv <;> decide
         have HBT:=ae (fun w'=>eE eqv w');simp only [<-hbt] at HBT;clear hbt;refine lp 0 ?_;refine ll 1 ?_;refine lp 2 ?_;refine lp 3 ?_;refine ll 4 ?_;refine lp 5 ?_;refine lp 6 ?_;refine ll 7 ?_;refine lp 8 ?_;refine lp 9 ?_;refine lp 10 ?_;refine aG (i:=11) (oi:=?_) ?_ ?_ ?_ (fun K hK=>?_);rotate_left
         ·simp only [gA,gB,gC];rfl
         ·kernel_rfl
         ·kernel_rfl
         go_simp;go_at_call 74;refine (HBT.out _).mono ?_;rintro e w8 ⟨rfl,rfl⟩;go_wp2_with fail;refine hK.out _ _ (fun _=>HCE.out _ HPD.out) ?_;have hHeld:=HCE.out _ HPD.out;clear hK K
         try simp only [Act.put,sA,sB,sC]
         refine aG (i:=12) (oi:=?_) ?_ ?_ ?_ (fun K hK=>?_);rotate_left
         ·simp only [gA,gB,gC];rfl
         ·kernel_rfl
         ·kernel_rfl
         go_simp;refine hK.out _ _ (fun _=>HCE.out _ (HPD.out.ext (Ext.alloc _ _))) ?_;clear hK K
         try simp only [Act.put,sA,sB,sC]
         refine aG (i:=13) (oi:=?_) ?_ ?_ ?_ (fun K hK=>?_);rotate_left
         ·simp only [gA,gB,gC];rfl
         ·kernel_rfl
         ·kernel_rfl
         refine bG _ _ (by rfl) (w.heap.size+1) (.slice ar nr cr) _ (by rfl) (HROW.out.ext (Ext.alloc _ _)) _ 1 _ [bt] (by rfl) (Ints.oneS _ _ _ _ (by simp)) (by rw [HRL.out];omega) (by simp;omega) ?_;intro v9 w9 ho hg9 hnear;have HP9:=ae ((HPD.out.ext (Ext.alloc _ _)).putA hcl hjt (by rw [HV.out];exact hg9) ho (by rw [HV.out];exact hnear));obtain ⟨ck9,cf9⟩:=HPD.out.lp.putA0 (Ext.alloc _ _) hjt (by rw [HV.out];exact hg9);rw [HV.out] at ck9;have hbx:=((hg9.block g ((HPD.out.lp.ext (Ext.alloc _ _)).lt) (by have h3:=HPD.out.lp.neR (i:=j) (by rw [HLA.out];exact hjt);rw [HV.out] at h3;exact h3)).trans (HPD.out.lp.ext (Ext.alloc _ _)).box);have c09:=LpO.boxc0 hbx;obtain ⟨a9,n9,c9,rfl,HN9⟩:=ho.var;clear ho hg9 hnear hbx;refine hK.out _ _ (fun _=>And.intro c09 ck9) ?_;have hHeld:=And.intro c09 ck9;clear hK K
         try simp only [Act.put,sA,sB,sC]
         refine lp 14 ?_;refine cq (i:=15) (oi:=?_) (w':=?_) ?_ ?_ ?_ ?_ ?_ ?_ ?_;rotate_left 2
         ·simp only [gA,gB,gC];rfl
         ·kernel_rfl
         ·kernel_rfl
         ·exact of_decide_eq_true (by kernel_rfl)
         ·rfl
         ·go_simp;(try with_reducible rfl)
         try simp only [Act.put,sA,sB,sC]
         refine cv (by kernel_rfl) ?_ _;obtain ⟨wz,hwz⟩:∃ x,x=w9.setCell ⟨G,j,none⟩ (.slice a9 n9 c9):=⟨_,rfl⟩;rw [<-hwz] at HP9;rw [<-hwz];clear hwz c09 ck9 cf9 hHeld heq;go_wp2_with fail
         go_roundg (g5-1)
         case measure=>have:=HJ.out;omega
         case rel=>exact ⟨j+1,_,_,ae (by have:=HJ.out;omega),by go_num,ae (by rw [List.length_set];exact HLA.out),ae (HRB.out.put (by rw [HLA.out];exact hjt) (HRW.out.snoc (by omega) (by omega))),HP9⟩
        ·have hjm:m=j:=by have:=HJ.out;omega
         subst hjm;have hk2:Ext wr5 wr5.drew:=Ext.drew wr5;have HPD:=ae (HP.out.ext hk2);have HCL2:=ae HCC.out.1;go_wp2_with fail;refine ci (M:=[6]) (S:=fun w'=>w'.cell? ⟨g,2,none⟩=some vc) (by kernel_rfl) ?_;have hHeld:=HPD.out.lp.c2;obtain ⟨wd,hwd⟩:∃ y,y=wr5.drew:=⟨_,rfl⟩;rw [<-hwd] at hHeld HPD;rw [<-hwd];clear hwd hk2;refine lp 0 ?_;refine ll 1 ?_;refine aG (i:=2) (oi:=?_) ?_ ?_ ?_ (fun K hK=>?_);rotate_left
         ·simp only [gA,gB,gC];rfl
         ·kernel_rfl
         ·kernel_rfl
         go_simp;go_at_call 86;refine (ce _ _).mono ?_;rintro e w8 ⟨rfl,hx8⟩;have HP8:=ae (HPD.out.ext hx8);have hs8:=HP8.out.sz;clear hx8;go_wp2_with fail;refine hK.out _ _ (fun _=>HP8.out.lp.c2) ?_;have hHeld:=HP8.out.lp.c2;clear hK K
         try simp only [Act.put,sA,sB,sC]
         refine aG (i:=3) (oi:=?_) ?_ ?_ ?_ (fun K hK=>?_);rotate_left
         ·simp only [gA,gB,gC];rfl
         ·kernel_rfl
         ·kernel_rfl
         go_simp;refine hK.out _ _ (fun _=>(HP8.out.ext (Ext.alloc _ _)).lp.c2) ?_;clear hK K
         try simp only [Act.put,sA,sB,sC]
         refine aG (i:=4) (oi:=?_) ?_ ?_ ?_ (fun K hK=>?_);rotate_left
         ·simp only [gA,gB,gC];rfl
         ·kernel_rfl
         ·kernel_rfl
         refine dd _ _ (by rfl) (w.heap.size+1) vc _ (by rfl) (HP8.out.lp.c.ext (Ext.alloc _ _)) _ 1 _ [(0,1)] (by rfl) (Rats.one' _ _ _ _ _ rfl) (by rw [HCL2.out];omega) (by simp;omega) ?_;intro v9 w9 ho hg9 hnear;obtain ⟨a9,n9,c9,rfl,HN9⟩:=ho.var;have HP9:=ae ((HP8.out.ext (Ext.alloc _ _)).pushC hcl hg9 ho);have hbx:=HP8.out.lp.boxC (Ext.alloc _ _) hg9;have c29:=LpO.boxc2 hbx;have cf9:=LpO.boxf hbx;clear ho hg9 hnear hbx;refine hK.out _ _ (fun _=>c29) ?_;have hHeld:=c29;clear hK K
         try simp only [Act.put,sA,sB,sC]
         refine lp 5 ?_;refine cq (i:=6) (oi:=?_) (w':=?_) ?_ ?_ ?_ ?_ ?_ ?_ ?_;rotate_left 2
         ·simp only [gA,gB,gC];rfl
         ·kernel_rfl
         ·kernel_rfl
         ·exact of_decide_eq_true (by kernel_rfl)
         ·rfl
         ·go_simp;(try with_reducible rfl)
         try simp only [Act.put,sA,sB,sC]
         refine cv (by kernel_rfl) ?_ _;obtain ⟨wz,hwz⟩:∃ x,x=w9.setCell ⟨g,2,none⟩ (.slice a9 n9 c9):=⟨_,rfl⟩;rw [<-hwz] at HP9;rw [<-hwz];clear hwz c29 cf9 hHeld;go_wp2_with fail
         go_roundg (g4-1)
         case measure=>have:=HK4.out;omega
         case rel =>
          refine ⟨k+1,_,_,_,_,ae (by have:=HK4.out;omega),by go_num,HLA,ae (HRB.out.full (by rw [HLA.out];omega)),ae ⟨by rw [List.length_append,HCC.out.1];rfl,?_⟩,HP9⟩;unfold allV;rw [List.all_append];have h1:=HCC.out.2;unfold allV at h1;rw [h1]
          decide
      ·have hkm:k<=m:=by have:=HK4.out;omega
       have hcase:((k:Int)<(m:Int)/\sl=false) ∨ ¬ (k:Int)<(m:Int):=by
        by_cases h1:k<m
        ·left;refine ⟨by omega,?_⟩;cases sl
         ·rfl
         ·exact absurd ⟨h1,rfl⟩ hgo
        ·right;omega
       have HOK:=ae (okLP_of (B:=B) (by rw [HCC.out.1];omega) (by rw [HLA.out];omega) (by rw [HLA.out];exact HNB.out) HCC.out.2 (by rw [HCC.out.1];exact HRB.out) HBB.out);have HBD:=ae (show 1<=A.length/\A.length<=3/\C.length<=6 by rw [HLA.out,HCC.out.1];omega);clear hgo;obtain ⟨aB,nB,cB,rfl,HNB2⟩:=HP.out.lp.b.var;obtain ⟨aC,nC,cC,rfl,HNC2⟩:=HP.out.lp.c.var;have hnd3:=qw;have q0:=HP.out.lp.c0;have q1:=HP.out.lp.c1;have q2:=HP.out.lp.c2;have r0:=HP.out.bx.t0 (b:=w.heap.size) (Bx.same _ _ _);have r1:=HP.out.bx.t1 (b:=w.heap.size) (Bx.same _ _ _);have r2:=HP.out.bx.t2 (b:=w.heap.size) (Bx.same _ _ _);have rf:=HP.out.bx.free (b:=w.heap.size) (Bx.same _ _ _);have HB9:=ae (HP.out.bx.put3 (b:=w.heap.size) (Bx.same _ _ _) (.slice (some ⟨G,0,none⟩) m cA) (.slice aB nB cB) (.slice aC nC cC) (bI _ _ _) (bI _ _ _) (bI _ _ _));have HL9:=ae ((((HP.out.lp.under (show w.heap.size<w.heap.size+1 by omega) 0 (.slice (some ⟨G,0,none⟩) m cA)).under (show w.heap.size<w.heap.size+1 by omega) 1 (.slice aB nB cB)).under (show w.heap.size<w.heap.size+1 by omega) 2 (.slice aC nC cC)));have z0:=HB9.out.t0 (Bx.same _ _ _);have z1:=HB9.out.t1 (Bx.same _ _ _);have z2:=HB9.out.t2 (Bx.same _ _ _);clear hnd3
       rcases hcase with ⟨hki,rfl⟩|hki
       all_goals
        go_wp2_with fail;refine bodyPost_ret (v:=.agg #[.slice (some ⟨G,0,none⟩) m cA,.slice aB nB cB,.slice aC nC cC]) (by simp [results,Tryz.results205,go_sem,z0,z1,z2]) rfl ⟨⟨_,m,cA,aB,nB,cB,aC,nC,cC,rfl,⟨⟨A,B,C,⟨fW.intss ⟨vs,HL9.out.a,HL9.out.rows⟩,HL9.out.b.ints,HL9.out.c.rats⟩,HOK.out,HBD.out⟩⟩⟩,HB9.out.cur,HB9.out.grown⟩
end Go.Proofs.YthjjfkeacobikaaGreat
