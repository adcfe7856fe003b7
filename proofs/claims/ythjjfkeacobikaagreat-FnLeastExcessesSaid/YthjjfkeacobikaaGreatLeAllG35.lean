import Derived.Test.YthjjfkeacobikaaGreatLeAllG27
import Derived.Test.YthjjfkeacobikaaGreatLeAllG26
import Derived.Test.YthjjfkeacobikaaGreatLeAllG43
import Derived.Test.YthjjfkeacobikaaGreatLeAllG42
import Derived.Test.YthjjfkeacobikaaGreatLeAllG5
import Derived.StillTailTactics
set_option linter.unusedVariables false
set_option linter.unusedSimpArgs false
namespace Go.Proofs.YthjjfkeacobikaaGreat
set_option maxRecDepth 100000
open Go.RowKit
def fB (w:World) (base:Nat) (e:Ending) (r:NucR):Prop :=
 ∃ pa pn pc sa sn sc,e=.returned (.agg #[.bool r.ok,.slice pa pn pc,.slice sa sn sc,.int .i64 r.rounds])/\OwnR w base (.slice pa pn pc) r.pt/\OwnG fixE 79 w base (.slice sa sn sc) r.st
theorem fB.no (w:World) (base:Nat):fB w base (.returned (.agg #[.bool false,.slice none 0 0,.slice none 0 0,.int .i64 0])) NucR.no :=
 ⟨Option.none,0,0,Option.none,0,0,rfl,OwnR.nil _ _,OwnG.nil _ _ _ _⟩
theorem nbox {w:World} {g:Nat} {a b c d:Value} {t:TypeId} (hb:w.heap[g]?=some (.cells #[a,b,c,d] t (0,0))) :
 w.cell? ⟨g,0,none⟩=some a/\w.cell? ⟨g,1,none⟩=some b/\w.cell? ⟨g,2,none⟩=some c/\w.cell? ⟨g,3,none⟩=some d/\∀ k,w.frozen? ⟨g,k,none⟩=false:=by
 refine ⟨?_,?_,?_,?_,fun k=>frozen_of_row w g k _ _ hb⟩ <;> rw [cell_of_row w g _ _ _ _ hb] <;> rfl
theorem nput {W:World} {r:Nat} {x0 x1 x2 x3:Value} {t:TypeId} (hb:W.heap[r]?=some (.cells #[x0,x1,x2,x3] t (0,0))) (v0 v1 v2 v3:Value) :
 ((((W.setCell ⟨r,0,none⟩ v0).setCell ⟨r,1,none⟩ v1).setCell ⟨r,2,none⟩ v2).setCell ⟨r,3,none⟩ v3).heap[r]?=some (.cells #[v0,v1,v2,v3] t (0,0)) /\
   ∀ b,b ≠ r->((((W.setCell ⟨r,0,none⟩ v0).setCell ⟨r,1,none⟩ v1).setCell ⟨r,2,none⟩ v2).setCell ⟨r,3,none⟩ v3).heap[b]?=W.heap[b]?:=by
 have h1:=heap_setCell_same W r 0 _ t v0 hb;have h2:=heap_setCell_same _ r 1 _ t v1 h1;have h3:=heap_setCell_same _ r 2 _ t v2 h2;have h4:=heap_setCell_same _ r 3 _ t v3 h3;exact ⟨h4,fun b hb2=>(heap_setCell_other _ _ _ _ hb2).trans ((heap_setCell_other _ _ _ _ hb2).trans ((heap_setCell_other _ _ _ _ hb2).trans (heap_setCell_other _ _ _ _ hb2)))⟩
theorem nputX {w W:World} {r:Nat} (hX:Ext w W) (hr:w.heap.size<=r) (v0 v1 v2 v3:Value):Ext w ((((W.setCell ⟨r,0,none⟩ v0).setCell ⟨r,1,none⟩ v1).setCell ⟨r,2,none⟩ v2).setCell ⟨r,3,none⟩ v3) :=
 (((hX.store 0 hr v0).store 1 hr v1).store 2 hr v2).store 3 hr v3
structure NucO (W wr:World) (B:Nat) (vp vs vf:Value) (pt:List (Int × Int)) (L:List (Int × Int × Int)) (fx:List Int) (k:Nat):Prop where
 box:wr.heap[B]?=some (.cells #[.bool true,vp,vs,.int .i64 (k:Int)] 73 (0,0))
 pt:OwnR wr (B+1) vp pt
 st:OwnG fixE 79 wr (B+1) vs L
 fx:OwnI wr (B+1) vf fx
 ext:Ext W wr
 lo:W.heap.size<=B
section
variable {W wr w':World} {B:Nat} {vp vs vf:Value} {pt:List (Int × Int)} {L:List (Int × Int × Int)} {fx:List Int} {k:Nat}
theorem NucO.grow (h:NucO W wr B vp vs vf pt L fx k) (hx:Ext wr w'):NucO W w' B vp vs vf pt L fx k:=⟨hx.blk h.box,h.pt.ext hx,h.st.ext hx,h.fx.ext hx,h.ext.trans hx,h.lo⟩
theorem NucO.lt (h:NucO W wr B vp vs vf pt L fx k):B<wr.heap.size:=lt_of_block h.box
theorem NucO.off {v:Value} (h:∀ k,v.ownBlock=some k->B+1<=k/\k<wr.heap.size) (j:Nat) (u:Value):∀ k,v.ownBlock=some k->(wr.setCell ⟨B,j,none⟩ u).heap[k]?=wr.heap[k]?:=fun k hk=>heap_setCell_other _ _ _ _ (by have:=(h k hk).1;show k ≠ B;omega)
theorem NucO.setP (h:NucO W wr B vp vs vf pt L fx k) {vp':Value} {pt':List (Int × Int)} (hp:OwnR wr (B+1) vp' pt'):NucO W (wr.setCell ⟨B,1,none⟩ vp') B vp' vs vf pt' L fx k :=
 ⟨heap_setCell_same wr B 1 _ _ _ h.box,hp.keep (NucO.off hp.lt 1 _),h.st.keep (NucO.off h.st.lt 1 _),h.fx.keep (NucO.off h.fx.lt 1 _),h.ext.store 1 h.lo _,h.lo⟩
theorem NucO.setK (h:NucO W wr B vp vs vf pt L fx k) {k':Nat} {i:Int} (hi:i=(k':Int)):NucO W (wr.setCell ⟨B,3,none⟩ (.int .i64 i)) B vp vs vf pt L fx k':=by
 subst hi;exact ⟨heap_setCell_same wr B 3 _ _ _ h.box,h.pt.keep (NucO.off h.pt.lt 3 _),h.st.keep (NucO.off h.st.lt 3 _),h.fx.keep (NucO.off h.fx.lt 3 _),h.ext.store 3 h.lo _,h.lo⟩
theorem NucO.grewS (h:NucO W wr B vp vs vf pt L fx k) {w1:World} (hx:Ext wr w1) {vs':Value} {L':List (Int × Int × Int)} (hg:w1.grownBy w' vs.ownBlock) (ho:OwnG fixE 79 w' (B+1) vs' L'):NucO W (w'.setCell ⟨B,2,none⟩ vs') B vp vs' vf pt L' fx k:=by
 have hb:=(hg.block B (lt_of_block (hx.blk h.box)) (fun e=>by have:=(h.st.lt B e.symm).1;omega)).trans (hx.blk h.box);have h1:OwnR w' (B+1) vp pt:=bG (h.pt.ext hx) (h.st.ext hx) (by decide) hg;have h2:OwnI w' (B+1) vf fx:=bG (h.fx.ext hx) (h.st.ext hx) (by decide) hg;exact ⟨heap_setCell_same w' B 2 _ _ _ hb,h1.keep (NucO.off h1.lt 2 _),ho.keep (NucO.off ho.lt 2 _),h2.keep (NucO.off h2.lt 2 _),((h.ext.trans hx).grown hg (fun j hj=>by have:=(h.st.lt j hj).1;have:=h.lo;omega)).store 2 h.lo _,h.lo⟩
theorem NucO.grewP (h:NucO W wr B vp vs vf pt L fx k) {w1:World} (hx:Ext wr w1) {vp':Value} {pt':List (Int × Int)} (hg:w1.grownBy w' vp.ownBlock) (ho:OwnR w' (B+1) vp' pt'):NucO W (w'.setCell ⟨B,1,none⟩ vp') B vp' vs vf pt' L fx k:=by
 have hb:=(hg.block B (lt_of_block (hx.blk h.box)) (fun e=>by have:=(h.pt.lt B e.symm).1;omega)).trans (hx.blk h.box);have h1:OwnG fixE 79 w' (B+1) vs L:=bG (h.st.ext hx) (h.pt.ext hx) (by decide) hg;have h2:OwnI w' (B+1) vf fx:=bG (h.fx.ext hx) (h.pt.ext hx) (by decide) hg;exact ⟨heap_setCell_same w' B 1 _ _ _ hb,ho.keep (NucO.off ho.lt 1 _),h1.keep (NucO.off h1.lt 1 _),h2.keep (NucO.off h2.lt 1 _),((h.ext.trans hx).grown hg (fun j hj=>by have:=(h.pt.lt j hj).1;have:=h.lo;omega)).store 1 h.lo _,h.lo⟩
theorem NucO.grewF (h:NucO W wr B vp vs vf pt L fx k) {w1:World} (hx:Ext wr w1) {vf':Value} {fx':List Int} (hg:w1.grownBy w' vf.ownBlock) (ho:OwnI w' (B+1) vf' fx'):NucO W w' B vp vs vf' pt L fx' k:=by
 have hb:=(hg.block B (lt_of_block (hx.blk h.box)) (fun e=>by have:=(h.fx.lt B e.symm).1;omega)).trans (hx.blk h.box);have h1:OwnR w' (B+1) vp pt:=bG (h.pt.ext hx) (h.fx.ext hx) (by decide) hg;have h2:OwnG fixE 79 w' (B+1) vs L:=bG (h.st.ext hx) (h.fx.ext hx) (by decide) hg;exact ⟨hb,h1,h2,ho,(h.ext.trans hx).grown hg (fun j hj=>by have:=(h.fx.lt j hj).1;have:=h.lo;omega),h.lo⟩
end
structure Stay (lo:Nat) (w w':World):Prop where
 size:w.heap.size<=w'.heap.size
 block:∀ k,lo<=k->k<w.heap.size->w'.heap[k]?=w.heap[k]?
def Off (lo hi:Nat) (v:Value):Prop:=∀ k,v.ownBlock=some k->k<lo ∨ hi<=k
theorem Off.of {lo hi:Nat} {w:World} {base:Nat} {v:Value} (h:∀ k,v.ownBlock=some k->base<=k/\k<w.heap.size) (hl:w.heap.size<=lo):Off lo hi v:=fun k hk=>Or.inl (by have:=(h k hk).2;omega)
theorem Off.nil (lo hi n c:Nat):Off lo hi (.slice none n c):=fun k hk=>by cases hk
theorem Off.near {lo hi:Nat} {w:World} {v v':Value} (h:Off lo hi v) (hn:Near w v v') (hs:hi<=w.heap.size):Off lo hi v':=fun k hk=>by
 rcases hn k hk with h1|h1
 ·exact h k h1
 ·exact Or.inr (by omega)
section
variable {lo:Nat} {w w1 w2:World}
theorem Stay.refl (lo:Nat) (w:World):Stay lo w w:=⟨Nat.le_refl _,fun _ _ _=>rfl⟩
theorem Stay.ext (h:Stay lo w w1) (hx:Ext w1 w2):Stay lo w w2:=⟨Nat.le_trans h.size hx.size,fun k h1 h2=>(hx.block k (Nat.lt_of_lt_of_le h2 h.size)).trans (h.block k h1 h2)⟩
theorem Stay.grown (h:Stay lo w w1) {v:Value} (hg:w1.grownBy w2 v.ownBlock) (ho:Off lo w.heap.size v):Stay lo w w2:=⟨Nat.le_trans h.size hg.size,fun k h1 h2=>(hg.block k (Nat.lt_of_lt_of_le h2 h.size) (fun e=>by have:=ho k e.symm;omega)).trans (h.block k h1 h2)⟩
theorem Stay.set (h:Stay lo w w1) {B j:Nat} (hB:B<lo) (v:Value):Stay lo w (w1.setCell ⟨B,j,none⟩ v):=⟨by rw [World.size_setCell];exact h.size,fun k h1 h2=>(heap_setCell_other _ _ _ _ (by show k ≠ B;omega)).trans (h.block k h1 h2)⟩
theorem Stay.on (h:Stay lo w w1) {P:World->Prop} (ho:On lo w P):On lo w1 P:=ho.keep h.size h.block
theorem Stay.blk (h:Stay lo w w1) {g:Nat} {o:Obj} (hg:lo<=g) (hb:w.heap[g]?=some o):w1.heap[g]?=some o:=(h.block g hg (lt_of_block hb)).trans hb
theorem Stay.ints (h:Stay lo w w1) {base:Nat} {v:Value} {l:List Int} (hb:lo<=base) (ho:OwnI w base v l):OwnI w1 base v l:=ho.keep fun k hk=>h.block k (by have:=(ho.lt k hk).1;omega) (ho.lt k hk).2
end
theorem kO.lpc {w:World} {base:Nat} {e:Ending} {A:List (List Int)} {B:List Int} {C:List (Int × Int)} {ok:Bool} (h:kO w base e A B C ok) :
 ∃ a na ca b nb cb c nc cc,e=.returned (.tuple #[lpW a na ca b nb cb c nc cc,.bool ok])/\LpC w a na ca b nb cb c nc cc A B C:=by
 obtain ⟨va,vb,vc,vs,rfl,h1,h2,h3,h4,h5⟩:=h;obtain ⟨a,na,ca,rfl,_⟩:=h1.var;obtain ⟨b,nb,cb,rfl,_⟩:=h3.var;obtain ⟨c,nc,cc,rfl,_⟩:=h4.var;exact ⟨_,_,_,_,_,_,_,_,_,rfl,(show es w base (.slice a na ca) A from ⟨vs,h1,h2⟩).intss,h3.ints,h4.rats⟩
theorem OwnG.fixs {w:World} {base:Nat} {a:Option Addr} {n cap:Nat} {L:List (Int × Int × Int)} (h:OwnG fixE 79 w base (.slice a n cap) L):Fixs w a n cap L:=h.slc.fixs
theorem qm (x:Int) (P:List (Int × Int × Int)) (t:Int × Int × Int):(x :: P.map fun f=>f.1)++[t.1]=x :: (P++[t]).map fun f=>f.1:=by simp
theorem fix_bd {V:List Int} {L:List (Int × Int × Int)} {s:Int} (hs:s<=1000) (h:∀ f ∈ L,f.1<=1000):∀ k:Nat,(s :: L.map (·.1))[k]?.getD 0<=9223372036854775807:=by
 intro k;by_cases hk:k<(s :: L.map (·.1)).length
 ·rw [List.getElem?_eq_getElem hk,Option.getD_some];have hm:=List.getElem_mem hk
  rcases List.mem_cons.1 hm with e|e
  ·rw [e];omega
  ·obtain ⟨f,hf,he⟩:=List.mem_map.1 e;rw [<-he];have:=h f hf;omega
 ·rw [List.getElem?_eq_none (by omega)];decide
end Go.Proofs.YthjjfkeacobikaaGreat
namespace Go.Proofs.YthjjfkeacobikaaGreat
set_option maxRecDepth 100000
open Go.RowKit
def AsksQ (P:Program) (w:World) (fid:FuncId) (ca:Array Value) (Q:List Int->Prop) (p:List Int->Bool):Prop :=
 ∀ (l:List Int) (a:Option Addr) (n c:Nat) (w1:World),Ext w w1->Ints w1 a n c l->Q l->Calls P fid (#[.slice a n c]++ca) w1 fun e w2=>e=.returned (.bool (p l))/\Ext w1 w2
set_option maxHeartbeats 400000 in
theorem kv {w:World} {a:Option Addr} {n cap:Nat} {L:List (List Int)} {fid:FuncId} {ca:Array Value} {Q:List Int->Prop} {p:List Int->Bool} (h:dV w a n cap L) (hg:IsGo Tryz.prog fid) (hf:AsksQ Tryz.prog w fid ca Q p) (hQ:∀ k,k<n->Q (L[k]?.getD [])) :
 Calls Tryz.prog 171 #[.slice a n cap,.func (.func fid) #[] ca] w fun e w'=>e=.returned (.int .i64 (bV p L))/\Ext w w':=by
 have hn:=h.hcap;have hm:=h.hmax;have HQ:=ae hQ;clear hQ;have hcf:∀ (args:Array Value) (w:World),(callFunc fid args).run Tryz.prog w=.ok (.enter fid args) w:=hg;go_enter Tryz.func171,Tryz.ntmps171
 go_wp2
 go_loopw [8] (fun i wr=>∃ k:Nat,k<=n/\i=.int .i64 k/\Hid ((L.take k).all (fun x=>!p x)=true)/\Ext w wr) (fun i _=>n-(intOf i).toNat)
 case atStart=>exact ⟨0,Nat.zero_le _,rfl,ae rfl,Ext.refl _⟩
 case round =>
  obtain ⟨k,hk,rfl,HA,hx⟩:=hrel;by_cases hlt:k<n
  ·obtain ⟨b,off,a',n',c',rfl,hc,hr⟩:=(h.ext hx).at hlt;have HL:=ae h.hlen;have HF:=ae (hf (L[k]?.getD []) a' n' c' wr hx hr (HQ.out k hlt));clear hr;by_cases hb:p (L[k]?.getD [])=true
   ·have HB:=ae hb;go_wp2_with fail;refine HF.out.mono ?_;rintro e w2 ⟨rfl,hx2⟩
    go_wp2
    go_ret;exact ⟨aQ (eJ (by have:=HL.out;omega) HA.out HB.out).symm,hx.trans (by assumption)⟩
   ·have HB:=ae hb;simp only [Bool.not_eq_true] at hb;go_wp2_with fail;refine HF.out.mono ?_;rintro e w2 ⟨rfl,hx2⟩
    go_wp2
    go_roundw
    case rel=>exact ⟨k+1,by omega,by go_num,ae (by rw [eW (by have:=HL.out;omega),List.all_append,HA.out];simpa using HB.out),hx.trans (by assumption)⟩
    case measure=>simp [intOf];omega
  ·have HL:=ae h.hlen
   go_wp2
   go_ret;refine ⟨aQ ?_,hx⟩;have:=HA.out;rw [List.take_of_length_le (by have:=HL.out;omega)] at this;exact (dL this).symm
theorem sN {w:World} {bc c n cap:Nat} {a:Option Addr} {l:List Int} (hb:w.cell? ⟨bc,0,none⟩=some (.int .i64 (c:Int))) (h:Ints w a n cap l) (hc:c<n) :
 Calls Tryz.prog 193 #[.slice a n cap,.pointer (some ⟨bc,0,none⟩)] w fun e w'=>e=.returned (.bool (l[c]?.getD 0 != 0))/\w=w':=by
 obtain ⟨b,off,rfl,hcc⟩:=h.at hc;have hmax:=h.hmax;have hcap:=h.hcap;clear h;go_enter Tryz.func193,Tryz.ntmps193
 go_wp2
 go_ret;exact ⟨rfl,rfl⟩
theorem qU:IsGo Tryz.prog 193:=isGo Tryz.func193 (by kernel_rfl) (by kernel_rfl)
theorem nW {w:World} {bc c n:Nat} (hb:w.cell? ⟨bc,0,none⟩=some (.int .i64 (c:Int))) (hc:c<n) :
 AsksQ Tryz.prog w 193 #[.pointer (some ⟨bc,0,none⟩)] (fun l=>l.length=n) (fun r=>r[c]?.getD 0 != 0):=by
 intro l a m cp w1 hx hi hq;have hm:m=n:=by rw [<-hi.hlen];exact hq
 exact (sN (hx.cellSome hb) hi (by omega)).mono fun e w2 ⟨he,hw⟩=>⟨he,hw ▸ Ext.refl _⟩
theorem idx_piv {M:List (List Int)} {c d:Nat} (hd:d<=M.length):bV (fun r:List Int=>r[c]?.getD 0 != 0) (M.drop d)=if pivM M c d<M.length then ((pivM M c d-d:Nat):Int) else -1:=by
 unfold bV pivM;cases hf:(M.drop d).findIdx? (fun r=>r[c]?.getD 0 != 0) with
 | none=>simp
 | some k =>
   rw [List.findIdx?_eq_some_iff_getElem] at hf;obtain ⟨h1,_⟩:=hf;rw [List.length_drop] at h1;simp only;rw [if_pos (by omega)]
   congr 1
   omega
theorem gcd_bd {B:Int}:∀ (l:List Int) (g:Int),0<=g->g<=B->(∀ x ∈ l,-B<=x/\x<=B)->0<=l.foldl gI g/\l.foldl gI g<=B
 | [],g,h0,h1,_=>⟨h0,h1⟩
 | x :: l,g,h0,h1,h=>by
   have hx:=h x (by simp);have h2:gI g x<=B:=by
    by_cases hz:x=0
    ·subst hz;rw [mh];omega
    ·have:=gI_le g hz;omega
   exact gcd_bd l (gI g x) (mU g x) h2 fun y hy=>h y (by simp [hy])
end Go.Proofs.YthjjfkeacobikaaGreat
